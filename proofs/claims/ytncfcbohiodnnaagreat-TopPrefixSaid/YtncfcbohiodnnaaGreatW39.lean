/- Parts of this seat's claims. -/
import Derived.Test.YtncfcbohiodnnaaGreatW38
set_option maxRecDepth 100000
set_option maxHeartbeats 6400000
namespace Go.Proofs.YtncfcbohiodnnaaGreat
open Go.RowKit
variable{w w' W wa wo W':World} {c n pt r B j b m mb q base cap id B0:Nat} {A:Option Addr} {a code what:Int} {cs:Array Value}
theorem z1i{g1 g2 g3 g4:Nat} (k1:Blk w g1 81 #[ii 5,ii 8,ii 0,ii 0,ii 0,ii 0]) (k2:Blk w g2 82 #[.slice (some ⟨g1,0,none⟩) 1 1]) (k3:Blk w g3 53 #[.slice (some ⟨g2,0,none⟩) 1 1]) (k4:Blk w g4 78 #[ii 0,ii 0,ii 0,ii 0]):q73.ok w (qxh (some ⟨g3,0,none⟩) (some ⟨g2,0,none⟩) (some ⟨g1,0,none⟩) (some ⟨g4,0,none⟩) 1 1 1 1):=by
 have hi:∀ n:Int,-1000000000000000<=n->n<=2000000000000000->i64 n:=λn h1 h2=>by unfold i64;omega
 have z0:=hi 0 zd zd;have z5:=hi 5 zd zd;have z8:=hi 8 zd zd;have q1:SlG w (some ⟨g1,0,none⟩) 1 1 6 St.f [⟨5,8,0,0,0,0⟩]:=q4h k1 rfl rfl (λ_ _=>rfl) zd;have q2:SlG w (some ⟨g2,0,none⟩) 1 1 1 qoa.f [⟨some ⟨g1,0,none⟩,1,[⟨5,8,0,0,0,0⟩]⟩]:=q4h k2 rfl rfl (λ_ _=>rfl) zd;have q3:SlG w (some ⟨g3,0,none⟩) 1 1 1 qkn.f [⟨some ⟨g2,0,none⟩,1,[⟨some ⟨g1,0,none⟩,1,[⟨5,8,0,0,0,0⟩]⟩]⟩]:=q4h k3 rfl rfl (λ_ _=>rfl) zd;have q4:SlG w (some ⟨g4,0,none⟩) 1 1 4 Fm.f [⟨0,0,0,0⟩]:=q4h k4 rfl rfl (λ_ _=>rfl) zd;refine⟨⟨q3,λx hx=>?_⟩,q4,λx hx=>?_⟩
 .obtain rfl:=List.mem_singleton.1 hx;refine⟨q2,λx hx=>?_⟩;obtain rfl:=List.mem_singleton.1 hx;refine⟨q1,λx hx=>?_⟩;obtain rfl:=List.mem_singleton.1 hx;exact⟨z5,z8,z0,z0,z0,z0⟩
 .obtain rfl:=List.mem_singleton.1 hx;exact⟨z0,z0,z0,z0⟩
def z1j(w:World) (e:Ending) (w':World):Prop:=∃ q:Rs,∃ S:Sy,S.evs.map (λe=>e.call) = [8,8,8,8,-1]/\S.bounds.map (λb=>b.at_) = [1000,6000]/\e = .returned (.tuple #[.agg (q.cells S),ii 0])/\RsR w.heap.size w' q S/\bW w w'
theorem z1k{a1 a2 a3 a4 a5 a6 a7 b1 b2 b3 b4:Option Addr} {c1 c2 c3 c4 c5 c6 c7 d1 d2 d3 d4:Nat} {x:Cf} (he:x=qws a1 a2 a3 a4 a5 a6 a7 c1 c2 c3 c4 c5 c6 c7) (hx:q1k.ok w x) (hs:q73.ok w (qxh b1 b2 b3 b4 d1 d2 d3 d4)) :
  cP 13 #[.agg (Cf.lw x),.agg #[.slice b1 1 d1,.slice b4 1 d4]] w (z1j w):=by
 subst he;refine(qhs hx hs (λp hp=>?_)).mono ?_
 .obtain rfl:p=0:=by have:p < 1:=hp;omega
  show(20:Int)<=400;omega
 .rintro e w' ⟨h1,-,hb⟩;obtain⟨q,he,hR⟩:=h1 (z0v a1 a2 a3 a4 a5 a6 a7 b1 b2 b3 b4 c1 c2 c3 c4 c5 c6 c7 d1 d2 d3 d4);obtain⟨p1,p2⟩:=Prod.mk.inj (qzk a1 a2 a3 a4 a5 a6 a7 b1 b2 b3 b4 c1 c2 c3 c4 c5 c6 c7 d1 d2 d3 d4);exact⟨q,_,p1,p2,he,hR,hb⟩
theorem qwt(w:World):(Instr.makeSlice 35 (ii 1) (ii 1)).run Tryz.prog w = .ok (.slice (some ⟨w.heap.size,0,none⟩) 1 1) (w.alloc (.cells #[ii 0,ii 0,ii 0,ii 0] 78)):=zk
def RSw(w:World) (q:Rs) (S:Sy):Prop:=S.evs.map (λe=>e.call) = [8,8,8,8,-1]/\S.bounds.map (λb=>b.at_) = [1000,6000]/\SlG w q.eA S.evs.length q.ec 6 Ev.f S.evs/\SlG w q.bA S.bounds.length q.bc 3 Bd.f S.bounds
def qxi:Bd:=⟨0,0,0⟩
theorem RSw.away{q:Rs} {S:Sy} {g:Nat} (h:RSw w q S) (k:Blk w g 62 #[.slice none 0 0,.slice none 0 0,.slice none 0 0,.slice none 0 0,ii 0,ii 0,ii 0,ii 0,.slice none 0 0,.slice none 0 0,.slice none 0 0,ii 0]):(∀ b o,q.eA=some ⟨b,o,none⟩->b≠g)/\(∀ b o,q.bA=some ⟨b,o,none⟩->b≠g):=by
 obtain⟨h1,h2,h3,h4⟩:=h;have l1:S.evs.length=5:=by rw[<- List.length_map (f:=λe:Ev=>e.call),h1];rfl
 have l2:S.bounds.length=2:=by rw[<- List.length_map (f:=λb:Bd=>b.at_),h2];rfl
 refine⟨λb o e hg=>?_,λb o e hg=>?_⟩
 .obtain⟨b',o',e',_,hc⟩:=h3.at_ Ev0 (k:=3) zo;rw[e]at e'
  cases e';subst hg;have:=hc 3 _ rfl;rw[k.cell,Array.getElem?_eq_none zp]at this
  cases this
 .obtain⟨b',o',e',_,hc⟩:=h4.at_ qxi (k:=1) zo;rw[e]at e'
  cases e';subst hg;have h5:=hc 1 _ rfl;have h6:=q6w (d:=qxi) (d':=(0:Int)) (λb:Bd=>b.at_) S.bounds (i:=1) zo;rw[h2]at h6
  have h6:(6000:Int)=(atD qxi S.bounds 1).at_:=h6;rw[k.cell,<- h6]at h5
  have:=Array.mem_of_getElem? h5;simp at this
theorem RSw.fr{q:Rs} {S:Sy} {g:Nat} (h:RSw w q S) (k:Blk w g 62 #[.slice none 0 0,.slice none 0 0,.slice none 0 0,.slice none 0 0,ii 0,ii 0,ii 0,ii 0,.slice none 0 0,.slice none 0 0,.slice none 0 0,ii 0]) (f:Fr (λk=>k=g) w w'):RSw w' q S :=
 ⟨h.1,h.2.1,h.2.2.1.fr f λb o _ e=>(h.away k).1 b o e,h.2.2.2.fr f λb o _ e=>(h.away k).2 b o e⟩
theorem RSw.keep{q:Rs} {S:Sy} (h:RSw w q S) (hb:bW w w'):RSw w' q S:=⟨h.1,h.2.1,h.2.2.1.keep hb,h.2.2.2.keep hb⟩
def q72:Nat->Nat
 | 0=>8 | 1=>9 | 2=>10 | 3=>11 | 4=>12 | 5=>13 | 6=>14 | 7=>15 | 8=>7 | 9=>16 | 10=>17 | 11=>2 | 12=>2 | _=>3
def FcW(cf:Cf) (B:Nat) (j:Nat) (v:Value) (w:World):Prop :=
 match j with
 | 0=>v = .agg (Cf.lw cf)
 | 1=>v = .agg #[ii 5,ii 8,ii 0,ii 0,ii 0,ii 0]
 | 2=>∃ g,v = .slice (some ⟨g,0,none⟩) 1 1/\Blk w g 81 #[ii 5,ii 8,ii 0,ii 0,ii 0,ii 0]
 | 3=>∃ g g1,v = .slice (some ⟨g,0,none⟩) 1 1/\Blk w g 82 #[.slice (some ⟨g1,0,none⟩) 1 1]/\Blk w g1 81 #[ii 5,ii 8,ii 0,ii 0,ii 0,ii 0]
 | 4=>∃ g g1 g2,v = .slice (some ⟨g,0,none⟩) 1 1/\Blk w g 53 #[.slice (some ⟨g1,0,none⟩) 1 1]/\Blk w g1 82 #[.slice (some ⟨g2,0,none⟩) 1 1]/\Blk w g2 81 #[ii 5,ii 8,ii 0,ii 0,ii 0,ii 0]
 | 5=>∃ g,v = .slice (some ⟨g,0,none⟩) 1 1/\Blk w g 78 #[ii 0,ii 0,ii 0,ii 0]
 | 6=>∃ b1 b2 b3 b4,v = .agg #[.slice b1 1 1,.slice b4 1 1]/\q73.ok w (qxh b1 b2 b3 b4 1 1 1 1)
 | 7=>∃ q S,v = .tuple #[.agg (q.cells S),ii 0]/\RSw w q S
 | 8=>∃ q S,v = .tuple #[.agg (q.cells S),ii 0]/\RSw w q S
 | 9=>∃ q S,v = .agg (q.cells S)/\RSw w q S
 | 10=>v=ii 0
 | 11=>∃ g,v=pp g/\Blk w g 62 #[.slice none 0 0,.slice none 0 0,.slice none 0 0,.slice none 0 0,ii 0,ii 0,ii 0,ii 0,.slice none 0 0,.slice none 0 0,.slice none 0 0,ii 0]/\B<=g
 | 12=>∃ g q S,v=pp g/\Blk w g 62 (q.cells S)/\RSw w q S
 | _=>v=ii 0
theorem FcW.twelve{cf:Cf} {g:Nat} {q:Rs} {S:Sy} {X:Nat->Value} (e:X 2=pp g) (k:Blk w g 62 (q.cells S)) (r:RSw w q S):FcW cf B 12 (X (q72 12)) w:=⟨g,q,S,e,k,r⟩
theorem FcW.ten{cf:Cf} {v:Value} (h:FcW cf B 10 v w):FcW cf B 10 v w':=h
theorem FcW.thirt{cf:Cf} {v:Value} (h:FcW cf B 13 v w):FcW cf B 13 v w':=h
theorem FcW.keep{cf:Cf} (hj:j < 14) {v:Value} {w w':World} (h:FcW cf B j v w) (hb:bW w w'):FcW cf B j v w':=by
 rcases(by omega:j=0\/j=1\/j=2\/j=3\/j=4\/j=5\/j=6\/j=7\/j=8\/j=9\/j=10\/j=11\/j=12\/j=13) with rfl | rfl | rfl | rfl | rfl | rfl | rfl | rfl | rfl | rfl | rfl | rfl | rfl | rfl
 .exact h
 .exact h
 .obtain⟨g,h1,h2⟩:=h;exact⟨g,h1,h2.keep hb⟩
 .obtain⟨g,g1,h1,h2,h3⟩:=h;exact⟨g,g1,h1,h2.keep hb,h3.keep hb⟩
 .obtain⟨g,g1,g2,h1,h2,h3,h4⟩:=h;exact⟨g,g1,g2,h1,h2.keep hb,h3.keep hb,h4.keep hb⟩
 .obtain⟨g,h1,h2⟩:=h;exact⟨g,h1,h2.keep hb⟩
 .obtain⟨b1,b2,b3,b4,h1,h2⟩:=h;exact⟨b1,b2,b3,b4,h1,q73.keep h2 hb⟩
 .obtain⟨q,S,h1,h2⟩:=h;exact⟨q,S,h1,h2.keep hb⟩
 .obtain⟨q,S,h1,h2⟩:=h;exact⟨q,S,h1,h2.keep hb⟩
 .obtain⟨q,S,h1,h2⟩:=h;exact⟨q,S,h1,h2.keep hb⟩
 .exact h
 .obtain⟨g,h1,h2,h3⟩:=h;exact⟨g,h1,h2.keep hb,h3⟩
 .obtain⟨g,q,S,h1,h2,h3⟩:=h;exact⟨g,q,S,h1,h2.keep hb,h3.keep hb⟩
 .exact h
def q93(X:Nat->Value) (k:Nat) (v:Value):Nat->Value:=λn=>if n=k then v else X n
def FsW(cf:Cf) (B:Nat) (L:Array Bool) (X:Nat->Value) (w:World):Prop:=(L.getD 12 false=true->∀ j,j < 14->j≠10->j≠12->j≠13->L.getD j false=true)/\(∀ j,j < 14->L.getD j false=true->(L.getD 12 false=true->12<=j\/j=10)->FcW cf B j (X (q72 j)) w)/\(L.getD 8 false=true->∃ c,X 7 = .tuple #[c,ii 0])
theorem quc{i:Nat} (hi:i < 14) (hj:j < 14) (h:i≠j) (h1:i=11->j≠12) (h2:i≠12):q72 j≠q72 i:=by
 have:((List.range 14).all λi=>(List.range 14).all λj=>i == j || (i == 11 && j == 12) || i == 12 || q72 j != q72 i)=true:=zd;simp only[List.all_eq_true,List.mem_range]at this;have:=this i hi j hj;intro e;rw[e]at this
 simp only[bne_self_eq_false,Bool.or_false,Bool.or_eq_true,beq_iff_eq,Bool.and_eq_true]at this;rcases this with (h3 | ⟨h3,h4⟩) | h3
 .exact h h3
 .exact h1 h3 h4
 .exact h2 h3
theorem FsW.no{cf:Cf} {L:Array Bool} {X:Nat->Value} {i:Nat} (H:FsW cf B L X w) (hi:i < 14) (h1:i≠10) (h2:i≠12) (h3:i≠13) (hu:L.getD i true=false) (h:L.getD 12 false=true):False:=by
 have:=H.1 h i hi h1 h2 h3;rw[Array.getD_eq_getD_getElem?]at this hu
 cases h5:L[i]? with
 | none=>rw[h5]at this;simp at this
 | some u=>rw[h5]at this hu;simp at this hu;rw[this]at hu;cases hu
theorem FsW.put{cf:Cf} {L:Array Bool} {X:Nat->Value} {i:Nat} {v:Value} (H:FsW cf B L X w) (hi:i < 14) (hu:L.getD i true=false) (h12:i≠12) (hb:bW w w') (hv:FcW cf B i v w'):FsW cf B (L.setIfInBounds i true) (q93 X (q72 i) v) w':=by
 have h4:=getD_set_ne (listed:=L) (i:=i) (j:=12) false h12;refine⟨λh j hj h1 h2 h3=>?_,λj hj hl hc=>?_,λhl=>?_⟩
 .rw[h4]at h
  exact getD_set_true (H.1 h j hj h1 h2 h3)
 .rw[h4]at hc
  unfold q93;by_cases h0:i=j
  .subst h0;rw[if_pos rfl];exact hv
  .rw[getD_set_ne false h0]at hl
   have h1:i=11->j≠12:=λa b=>by
    subst a;subst b;exact H.no zd zd zd zd hu hl
   rw[if_neg (quc hi hj h0 h1 h12)];exact(H.2.1 j hj hl hc).keep hj hb
 .unfold q93;by_cases h8:i=8
  .subst h8;obtain⟨q,S,h1,-⟩:=hv;exact⟨_,(if_pos rfl).trans h1⟩
  .rw[getD_set_ne false h8]at hl
   rw[if_neg (show 7≠q72 i from quc hi (by decide:8 < 14) h8 (λ_=>by decide) h12)];exact H.2.2 hl
theorem FsW.got{cf:Cf} {L:Array Bool} {X:Nat->Value} {i:Nat} (H:FsW cf B L X w) (h12:L.getD 12 false=true->i=10) (hi:i < 14) (h:L.getD i false=true):FcW cf B i (X (q72 i)) w:=H.2.1 i hi h (λhc => .inr (h12 hc))
section
variable(a1 a2 a3 a4 a5 a6 a7:Option Addr) (c1 c2 c3 c4 c5 c6 c7:Nat)
theorem z2m:PlL (qws a1 a2 a3 a4 a5 a6 a7 c1 c2 c3 c4 c5 c6 c7) :=
 ⟨rfl,λy hy=>by obtain rfl:=List.mem_singleton.1 hy;exact⟨rfl,rfl,rfl,rfl,rfl,rfl,rfl⟩,rfl,rfl,λy hy=>by obtain rfl:=List.mem_singleton.1 hy;rfl,rfl,rfl,rfl,rfl⟩
end
theorem z1l{a1 a2 a3 a4 a5 a6 a7:Option Addr} {c1 c2 c3 c4 c5 c6 c7:Nat} {x:Cf} (he:x=qws a1 a2 a3 a4 a5 a6 a7 c1 c2 c3 c4 c5 c6 c7) (hx:q1k.ok w x) :
  cP 23 #[.agg (Cf.lw x)] w λe w'=>∃ A n c l,30 < n/\e = .returned (.tuple #[.slice A n c,ii 0])/\SlB w' A n c l/\bW w w':=by
 subst he;exact z2l hx (z2m ..)
theorem j14(h:j < 14):j=0\/j=1\/j=2\/j=3\/j=4\/j=5\/j=6\/j=7\/j=8\/j=9\/j=10\/j=11\/j=12\/j=13:=zo
theorem j3(h:j < 14) (h2:12<=j\/j=10):j=10\/j=12\/j=13:=zo
theorem z20{L:Array Bool} (hu:L.getD 12 true=false):¬ L.getD 12 false=true:=λh=>by
 rw[Array.getD_eq_getD_getElem?]at h hu
 cases h5:L[12]? with
 | none=>rw[h5]at h;simp at h
 | some u=>rw[h5]at h hu;simp at h hu;rw[h]at hu;cases hu
theorem q4d{ops:Array Oper} {md:Region.Mode} {L:Array Bool} {i k:Nat} {m:Oper} (hi:i ∈ Region.ready md ops L) (hp:ops[i]?=some m) (hk:(m.after.toList.any λe=>Region.binds md e && (e.on == k))=true):L.getD k false=true:=by
 obtain⟨_,o,ho,h⟩:=mem_ready.1 hi;rw[hp]at ho
 cases ho;rw[List.any_eq_true]at hk
 obtain⟨e,he,h1⟩:=hk;simp only[Bool.and_eq_true,beq_iff_eq]at h1;rw[<- h1.2];exact h e (Array.mem_toList_iff.1 he) h1.1
theorem q43(w:World):cP 8 #[] w λe w'=>e = .returned (.bool true)/\bW w w':=by
 refine inC ?_;go_in;go_upto_region 2 with ((with_reducible refine Calls.mono (qpq _) ?_);rintro _ w1 ⟨a1,a2,a3,a4,a5,a6,a7,c1,c2,c3,c4,c5,c6,c7,cf,ha,rfl,hx,h8⟩;replace ha:=zhd ha)
 have k1:=Blk.new w1 33 (Cf.lw cf);have b1:=h8.alloc (by have:=h8.size;omega) (.cells (Cf.lw cf) 33);have s1:(w1.alloc (.cells (Cf.lw cf) 33)).heap.size=w1.heap.size + 1:=zp;have hx:=q1k.keep hx (zA w1 (.cells (Cf.lw cf) 33));have hp:=h8.size;clear h8;generalize w1.alloc (.cells (Cf.lw cf) 33)=w2 at k1 b1 s1 hx ⊢;obtain⟨gc,hm⟩:∃ gc,gc=w1.heap.size:=⟨_,rfl⟩
 rw[<- hm]at hp k1 s1 ⊢
 clear hm;have hz:=qwt;go_cut [2,3] (λt u W=>(∃ g q S,t = .pointer (some ⟨g,0,none⟩)/\Blk W g 62 (q.cells S)/\RSw W q S)/\u = .int .i64 0/\bW w2 W)
 case first =>
  refine qdt (λL a W=>∃ X:Nat->Value,a=⟨#[.bool false,pp gc,X 2,X 3,undef,undef,.agg (Cf.lw cf),X 7,X 8,X 9,X 10,X 11,X 12,X 13,X 14,X 15,X 16,X 17,undef,undef,undef,undef,undef,undef,undef,undef,undef,undef,undef,undef,undef,undef,undef,undef,undef,undef,undef,undef,undef,undef,undef,undef,undef,undef,undef,undef,undef,undef,undef,undef,undef,undef,undef,undef,undef,undef,undef,undef,undef,undef,undef,undef,undef,undef,undef,undef,undef,undef,undef,undef],[]⟩/\bW w2 W/\FsW cf w2.heap.size L X W) zk zk ?_ ?_ ?_
  .exact⟨λ_=>undef,rfl,bR.drew,λh=>(by simp at h),λj hj h=>(by simp[hj]at h),λh=>(by simp at h)⟩
  .rintro L _ W i hL ⟨X,rfl,hB,HF⟩ hi;have hf:i < 14:=q47 hi;obtain⟨hu,-⟩:=mem_ready.1 hi;rcases j14 hf with rfl | rfl | rfl | rfl | rfl | rfl | rfl | rfl | rfl | rfl | rfl | rfl | rfl | rfl
   ·
    obtain⟨kc,kl⟩:=(k1.keep hB).cl;refine q1g rfl rfl (λK' hK'=>?_);go_wp2_with fail;refine hK' _ _ rfl ⟨q93 X (q72 0) (.agg (Cf.lw cf)),rfl,hB,HF.put zd hu zd bR rfl⟩
   ·
    refine q1g rfl rfl (λK' hK'=>?_);go_wp2_with fail;refine hK' _ _ rfl ⟨q93 X (q72 1) (.agg #[ii 5,ii 8,ii 0,ii 0,ii 0,ii 0]),rfl,hB,HF.put zd hu zd bR rfl⟩
   ·
    have e1:=HF.got (i:=1) (λh=>(HF.no zd zd zd zd hu h).elim) zd (q4d hi rfl rfl);rw[show X 9=_ from e1];refine q1g rfl rfl (λK' hK'=>?_);go_wp2_with fail;have k:=Blk.new W 81 #[ii 5,ii 8,ii 0,ii 0,ii 0,ii 0];refine hK' _ _ rfl ⟨q93 X (q72 2) (.slice (some ⟨W.heap.size,0,none⟩) 1 1),(by simp only[q93,q72,reduceIte,Nat.reduceEqDiff];rw[show X 9=_ from e1]),bt hB (zA W _),HF.put zd hu zd (zA W _) ⟨_,rfl,k⟩⟩
   ·
    obtain⟨g1,e1,h1⟩:=HF.got (i:=2) (λh=>(HF.no zd zd zd zd hu h).elim) zd (q4d hi rfl rfl);rw[show X 10=_ from e1];refine q1g rfl rfl (λK' hK'=>?_);go_wp2_with fail;have k:=Blk.new W 82 #[.slice (some ⟨g1,0,none⟩) 1 1];refine hK' _ _ rfl ⟨q93 X (q72 3) (.slice (some ⟨W.heap.size,0,none⟩) 1 1),(by simp only[q93,q72,reduceIte,Nat.reduceEqDiff];rw[show X 10=_ from e1]),bt hB (zA W _),HF.put zd hu zd (zA W _) ⟨_,_,rfl,k,h1.alloc _⟩⟩
   ·
    obtain⟨g1,g2,e1,h1,h2⟩:=HF.got (i:=3) (λh=>(HF.no zd zd zd zd hu h).elim) zd (q4d hi rfl rfl);rw[show X 11=_ from e1];refine q1g rfl rfl (λK' hK'=>?_);go_wp2_with fail;have k:=Blk.new W 53 #[.slice (some ⟨g1,0,none⟩) 1 1];refine hK' _ _ rfl ⟨q93 X (q72 4) (.slice (some ⟨W.heap.size,0,none⟩) 1 1),(by simp only[q93,q72,reduceIte,Nat.reduceEqDiff];rw[show X 11=_ from e1]),bt hB (zA W _),HF.put zd hu zd (zA W _) ⟨_,_,_,rfl,k,h1.alloc _,h2.alloc _⟩⟩
   ·
    refine q1g rfl rfl (λK' hK'=>?_);go_wp2_with fail;have k:=Blk.new W 78 #[ii 0,ii 0,ii 0,ii 0];refine hK' _ _ rfl ⟨q93 X (q72 5) (.slice (some ⟨W.heap.size,0,none⟩) 1 1),rfl,bt hB (zA W _),HF.put zd hu zd (zA W _) ⟨_,rfl,k⟩⟩
   ·
    obtain⟨g1,g2,g3,e1,h1,h2,h3⟩:=HF.got (i:=4) (λh=>(HF.no zd zd zd zd hu h).elim) zd (q4d hi rfl rfl);obtain⟨g4,e4,h4⟩:=HF.got (i:=5) (λh=>(HF.no zd zd zd zd hu h).elim) zd (q4d hi rfl rfl);rw[show X 12=_ from e1,show X 13=_ from e4];refine q1g rfl rfl (λK' hK'=>?_);go_wp2_with fail;refine hK' _ _ rfl ⟨q93 X (q72 6) (.agg #[.slice (some ⟨g1,0,none⟩) 1 1,.slice (some ⟨g4,0,none⟩) 1 1]),(by simp only[q93,q72,reduceIte,Nat.reduceEqDiff];rw[show X 12=_ from e1,show X 13=_ from e4]),hB,HF.put zd hu zd bR ⟨_,_,_,_,rfl,z1i h3 h2 h1 h4⟩⟩
   ·
    have e0:=HF.got (i:=0) (λh=>(HF.no zd zd zd zd hu h).elim) zd (q4d hi rfl rfl);obtain⟨b1,b2,b3,b4,e6,h6⟩:=HF.got (i:=6) (λh=>(HF.no zd zd zd zd hu h).elim) zd (q4d hi rfl rfl);rw[show X 8=_ from e0,show X 14=_ from e6];refine q1g rfl rfl (λK' hK'=>?_);go_wp2_with fail;refine(z1k ha.out (q1k.keep hx hB) h6).mono ?_;rintro _ w5 ⟨q,S,ht,hy,rfl,hR,b5⟩;exact hK' _ _ rfl ⟨q93 X (q72 7) (.tuple #[.agg (q.cells S),ii 0]),(by simp only[q93,q72,reduceIte,Nat.reduceEqDiff];rw[show X 8=_ from e0,show X 14=_ from e6]),bt hB b5,HF.put zd hu zd b5 ⟨q,S,rfl,ht,hy,hR.ev,hR.bd⟩⟩
   ·
    obtain⟨q,S,e1,h1⟩:=HF.got (i:=7) (λh=>(HF.no zd zd zd zd hu h).elim) zd (q4d hi rfl rfl);rw[show X 15=_ from e1];refine q1g rfl rfl (λK' hK'=>?_);go_wp2_with fail;refine hK' _ _ rfl ⟨q93 X (q72 8) (.tuple #[.agg (q.cells S),ii 0]),(by simp only[q93,q72,reduceIte,Nat.reduceEqDiff];rw[show X 15=_ from e1]),hB,HF.put zd hu zd bR ⟨q,S,rfl,h1⟩⟩
   ·
    obtain⟨q,S,e1,h1⟩:=HF.got (i:=8) (λh=>(HF.no zd zd zd zd hu h).elim) zd (q4d hi rfl rfl);rw[show X 7=_ from e1];refine q1g rfl rfl (λK' hK'=>?_);go_wp2_with fail;refine hK' _ _ rfl ⟨q93 X (q72 9) (.agg (q.cells S)),(by simp only[q93,q72,reduceIte,Nat.reduceEqDiff];rw[show X 7=_ from e1]),hB,HF.put zd hu zd bR ⟨q,S,rfl,h1⟩⟩
   ·
    obtain⟨c,e1⟩:=HF.2.2 (q4d hi rfl rfl);rw[show X 7=_ from e1];refine q1g rfl rfl (λK' hK'=>?_);go_wp2_with fail;refine hK' _ _ rfl ⟨q93 X (q72 10) (ii 0),(by simp only[q93,q72,reduceIte,Nat.reduceEqDiff];rw[show X 7=_ from e1]),hB,HF.put zd hu zd bR rfl⟩
   ·
    refine q1g rfl rfl (λK' hK'=>?_);go_wp2_with fail;have k:=Blk.new W 62 #[.slice none 0 0,.slice none 0 0,.slice none 0 0,.slice none 0 0,ii 0,ii 0,ii 0,ii 0,.slice none 0 0,.slice none 0 0,.slice none 0 0,ii 0];refine hK' _ _ rfl ⟨q93 X (q72 11) (pp W.heap.size),rfl,bt hB (zA W _),HF.put zd hu zd (zA W _) ⟨_,rfl,k,hB.size⟩⟩
   ·
    obtain⟨g,e1,h1,hg⟩:=HF.got (i:=11) (λh=>absurd h (z20 hu)) zd (q4d hi rfl rfl);obtain⟨q,S,e2,h2⟩:=HF.got (i:=9) (λh=>absurd h (z20 hu)) zd (q4d hi rfl rfl);have hq:=λh=>HF.2.1 10 zd h (λ_ => .inr rfl);unfold Rs.cells at e2;rw[show X 2=_ from e1,show X 16=_ from e2];have zz0:W.cell? ⟨g,0,none⟩=some (.slice none 0 0):=h1.cell 0;have zz1:W.cell? ⟨g,1,none⟩=some (.slice none 0 0):=h1.cell 1;have zz2:W.cell? ⟨g,2,none⟩=some (.slice none 0 0):=h1.cell 2;have zz3:W.cell? ⟨g,3,none⟩=some (.slice none 0 0):=h1.cell 3;have zz4:W.cell? ⟨g,4,none⟩=some (ii 0):=h1.cell 4;have zz5:W.cell? ⟨g,5,none⟩=some (ii 0):=h1.cell 5;have zz6:W.cell? ⟨g,6,none⟩=some (ii 0):=h1.cell 6;have zz7:W.cell? ⟨g,7,none⟩=some (ii 0):=h1.cell 7;have zz8:W.cell? ⟨g,8,none⟩=some (.slice none 0 0):=h1.cell 8;have zz9:W.cell? ⟨g,9,none⟩=some (.slice none 0 0):=h1.cell 9;have zz10:W.cell? ⟨g,10,none⟩=some (.slice none 0 0):=h1.cell 10;have zz11:W.cell? ⟨g,11,none⟩=some (ii 0):=h1.cell 11;have zf:∀ i,W.frozen? ⟨g,i,none⟩=false:=h1.frozen;have zl:=h1.lt;refine q1g rfl rfl (λK' hK'=>?_);go_wp2_with fail;have nK:Blk (setRow W g 0 [.slice q.eA S.evs.length q.ec,.slice q.mA S.msgs.length q.mc,.slice q.bA S.bounds.length q.bc,.slice q.gA q.gn q.gc,ii q.i1,ii q.i2,ii q.i3,ii S.g.pl.m.total,.slice q.hA S.sheds.length q.hc,.slice q.dA S.modes.length q.dc,.slice q.rA q.rn q.rc,ii S.late]) g 62 (q.cells S):=Blk.row h1 rfl;have nB:=Below.row (g:=g) [.slice q.eA S.evs.length q.ec,.slice q.mA S.msgs.length q.mc,.slice q.bA S.bounds.length q.bc,.slice q.gA q.gn q.gc,ii q.i1,ii q.i2,ii q.i3,ii S.g.pl.m.total,.slice q.hA S.sheds.length q.hc,.slice q.dA S.modes.length q.dc,.slice q.rA q.rn q.rc,ii S.late] 0 hB hg;have nF:=Fr.row (S:=λk=>k=g) (g:=g) [.slice q.eA S.evs.length q.ec,.slice q.mA S.msgs.length q.mc,.slice q.bA S.bounds.length q.bc,.slice q.gA q.gn q.gc,ii q.i1,ii q.i2,ii q.i3,ii S.g.pl.m.total,.slice q.hA S.sheds.length q.hc,.slice q.dA S.modes.length q.dc,.slice q.rA q.rn q.rc,ii S.late] 0 (Fr.refl (λk=>k=g) W) (λ_=>rfl);have nR:=h2.fr h1 nF;have he:L.size=14:=hL;simp only[setRow,Nat.zero_add,Nat.reduceAdd]at nK nB nR;have h0:∀ j,j≠12->(L.setIfInBounds 12 true).getD j false=L.getD j false:=λj h=>getD_set_ne false (Ne.symm h);have e3:X 2=_:=e1;have e4:X 16=_:=e2;refine hK' _ _ rfl ⟨X,?_,nB,λ_ j hj h1 h2 h3=>?_,λj hj hl hc=>?_,λh=>HF.2.2 ?_⟩
    .rw[e3,e4]
    .rw[h0 j h2];have hd:j=0\/j=1\/j=2\/j=3\/j=4\/j=5\/j=6\/j=7\/j=8\/j=9\/j=10\/j=11\/j=12\/j=13:=j14 hj;rcases hd with rfl | rfl | rfl | rfl | rfl | rfl | rfl | rfl | rfl | rfl | rfl | rfl | rfl | rfl <;> first | exact q4d hi rfl rfl | exact absurd rfl h1 | exact absurd rfl h2 | exact absurd rfl h3
    .have hc:=hc (by rw[Array.getD_eq_getD_getElem?,Array.getElem?_setIfInBounds_self_of_lt (by rw[he];decide)];rfl);rcases j3 hj hc with rfl | rfl | rfl
     .exact FcW.ten (hq (by rw[<- h0 10 zd];exact hl))
     .exact FcW.twelve e3 nK nR
     .exact FcW.thirt (HF.2.1 13 zd (by rw[<- h0 13 zd];exact hl) (λ_ => .inl zd))
    .rw[<- h0 8 zd];exact h
   ·
    have e1:=HF.got (i:=10) (λ_=>rfl) zd (q4d hi rfl rfl);rw[show X 17=_ from e1];refine q1g rfl rfl (λK' hK'=>?_);go_wp2_with fail;refine hK' _ _ rfl ⟨q93 X (q72 13) (ii 0),(by simp only[q93,q72,reduceIte,Nat.reduceEqDiff];rw[show X 17=_ from e1]),hB,HF.put zd hu zd bR rfl⟩
  .rintro L _ W ⟨X,rfl,hB,HF⟩ h7;have hr:=HF.2.1 12 zd (h7 12 zd) (λ_ => .inl zd);have hs:=HF.2.1 13 zd (h7 13 zd) (λ_ => .inl zd);go_wp2_with fail;go_meet
   case rel=>exact⟨hr,hs,hB⟩
 case rest =>
  obtain⟨⟨g,q,S,rfl,kr,hR⟩,rfl,hB⟩:=hcut;have h5:=bt b1 hB;obtain⟨kc,kl⟩:=(k1.keep hB).cl;have hE:=z1l ha.out (q1k.keep hx hB);have hh:=zhd (And.intro kr (And.intro hR h5));clear kr hR h5 k1 b1 hx hz hB hp;go_upto_region 4 with (go_at_call 23;refine(hE).mono ?_;rintro _ w4 ⟨A,n,c,l,hn,rfl,hv,h9⟩)
  obtain⟨kr,hR,h5⟩:=hh.out;have kr:=kr.keep h9;have hR:=hR.keep h9;have h5:=bt h5 h9;obtain⟨r1,r2,r3,r4⟩:=hR;have l1:S.evs.length=5:=by rw[<- List.length_map (f:=λe:Ev=>e.call),r1];rfl
  have l2:S.bounds.length=2:=by rw[<- List.length_map (f:=λb:Bd=>b.at_),r2];rfl
  have c0:w4.cell? ⟨g,0,none⟩=some (.slice q.eA S.evs.length q.ec):=kr.cell 0;have c2:w4.cell? ⟨g,2,none⟩=some (.slice q.bA S.bounds.length q.bc):=kr.cell 2;have gl:=kr.lt;obtain⟨b,o,e0,hb,h3⟩:=r3.at_ Ev0 (k:=3) zo;obtain⟨b',o',hk,-,h4⟩:=r3.at_ Ev0 (k:=4) zo;rw[e0]at hk
  cases hk;obtain⟨d,p,e1,hd,h1⟩:=r4.at_ qxi (k:=1) zo;have v3:=q6w (d:=Ev0) (d':=(0:Int)) (λe:Ev=>e.call) S.evs (i:=3) zo;have v4:=q6w (d:=Ev0) (d':=(0:Int)) (λe:Ev=>e.call) S.evs (i:=4) zo;have v1:=q6w (d:=qxi) (d':=(0:Int)) (λb:Bd=>b.at_) S.bounds (i:=1) zo;rw[r1]at v3 v4
  rw[r2]at v1
  have v3:(8:Int)=(atD Ev0 S.evs 3).call:=v3;have v4:(-1:Int)=(atD Ev0 S.evs 4).call:=v4;have v1:(6000:Int)=(atD qxi S.bounds 1).at_:=v1;have u3:w4.cell? ⟨b,o + 3 * 6 + 3,none⟩=some (ii 8):=by rw[v3];exact h3 3 _ rfl
  have u4:w4.cell? ⟨b,o + 4 * 6 + 3,none⟩=some (ii (-1)):=by rw[v4];exact h4 3 _ rfl
  have u1:w4.cell? ⟨d,p + 1 * 3 + 1,none⟩=some (ii 6000):=by rw[v1];exact h1 1 _ rfl
  rw[l1,e0]at c0
  rw[l2,e1]at c2
  rw[show o + 3 * 6=o + 18 from rfl]at u3
  rw[show o + 4 * 6=o + 24 from rfl]at u4
  rw[show p + 1 * 3=p + 3 from rfl]at u1
  have hn2:(30:Int) < n:=zo;have HZ:=zhd h5;clear h3 h4 h1 v3 v4 v1 r1 r2 r3 r4 kr h5 h9 hE hh l1 l2 e0 e1 kc kl;go_wp2_with fail;go_ret;exact⟨rfl,HZ.out⟩
end Go.Proofs.YtncfcbohiodnnaaGreat
