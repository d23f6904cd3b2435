/- Parts of this seat's claims. -/
import Derived.Test.YtncfcbohiodnnaaGreatW25
import Derived.Test.YtncfcbohiodnnaaGreatW29
import Derived.Stop.RegionWithIn
set_option maxRecDepth 100000
set_option maxHeartbeats 6400000
namespace Go.Proofs.YtncfcbohiodnnaaGreat
open Go.RowKit
variable{w w' W wa wo W':World} {c n pt r B j b m mb q base cap id B0:Nat} {A:Option Addr} {a code what:Int} {cs:Array Value}
structure ExE(s s':Ce):Prop where
 cf:s'.cf=s.cf
 pa:s'.part=s.part
 ev:∃ l,s'.evs=s.evs ++ l/\q3g s.cf.acts.l s.part l
theorem ExE.of{s s':Ce} (h1:s'.cf=s.cf) (h2:s'.part=s.part) (h3:s'.evs=s.evs):ExE s s':=⟨h1,h2,[],by simp[h3],trivial⟩
theorem ExE.refl(s:Ce):ExE s s:=ExE.of rfl rfl rfl
theorem ExE.trans{a b c:Ce} (h:ExE a b) (k:ExE b c):ExE a c:=by
 obtain⟨l,h1,h2⟩:=h.ev;obtain⟨m,k1,k2⟩:=k.ev;rw[h.cf,h.pa]at k2
 exact⟨k.cf.trans h.cf,k.pa.trans h.pa,l ++ m,by rw[k1,h1,List.append_assoc],h2.app k2⟩
theorem Ext.e{s s':Ce} (h:Ext n s s'):ExE s s':=by
 obtain⟨l,h1,_,h3⟩:=h.ev;exact⟨h.cf,h.pa,l,h1,h3⟩
theorem qp0(s:Ce) (n:Int):ExE s (qb3 s n):=by
 unfold qb3;split
 .exact ExE.refl s
 .rename_i hr;have hw:¬ q06 s < 0:=λq=>by
   have:q58 s=0:=if_pos q;unfold q5x at hr;omega
  have hk:(q06 s).toNat < s.tab.length:=by
   unfold q06 at hw ⊢;split at hw
   .omega
   .rename_i h;rw[if_neg h];have:=q69 q4n s.tab s.tab.length;unfold q7h at hw ⊢;omega
  dsimp only;have h1:ExE s (q0q s (q06 s).toNat (q5x s n)):=ExE.of rfl rfl rfl;have h0:(q0q s (q06 s).toNat (q5x s n)).slk≠none:=by simp[q0q]
  have h5:(q0q s (q06 s).toNat (q5x s n)).tab=s.tab:=rfl;generalize q0q s (q06 s).toNat (q5x s n)=s1 at *;refine h1.trans ?_;split
  .have h2:ExE s1 (q1d s1 (q06 s).toNat ((atD Tk0 s1.tk (q06 s).toNat).set ((atD Tk0 s1.tk (q06 s).toNat).at_ + 1))):=ExE.of rfl rfl rfl;have h4:(q1d s1 (q06 s).toNat ((atD Tk0 s1.tk (q06 s).toNat).set ((atD Tk0 s1.tk (q06 s).toNat).at_ + 1))).slk≠none:=h0;have h6:(q1d s1 (q06 s).toNat ((atD Tk0 s1.tk (q06 s).toNat).set ((atD Tk0 s1.tk (q06 s).toNat).at_ + 1))).tab=s.tab:=h5;generalize q1d s1 (q06 s).toNat ((atD Tk0 s1.tk (q06 s).toNat).set ((atD Tk0 s1.tk (q06 s).toNat).at_ + 1))=s2 at *;have h3:=q9k (s:=s2) (k:=(q06 s).toNat) (y:=(atD Tk0 s1.tk (q06 s).toNat).step) (by rw[h6];exact hk) h4;exact h2.trans (h3.e.trans (q17 (h3.slk h4)).e)
  .exact(q17 h0).e
theorem qau(s:Ce):ExE s (q2g s):=by
 have h1:ExE s (beginS s):=ExE.of rfl rfl rfl;have h0:(beginS s).slk≠none:=by simp[beginS]
 show ExE s (if (beginS s).mode≠3 then beginS s else q2n (q36 (qn2 (q0c (beginS s)))));generalize beginS s=s1 at *;split
 .exact h1
 .have e1:=q64 s1;have e2:=q7y (q0c s1) 8;have e3:=q2u q9h (qbc (qdw ((List.range 8).foldl q4g (q0c s1)).win) ((List.range 8).foldl q4g (q0c s1)).tab ((List.range 8).foldl q4g (q0c s1)).tab.length) ((List.range 8).foldl q4g (q0c s1));have e:=(e1.trans e2).trans e3;exact h1.trans (e.e.trans (q17 (e.slk h0)).e)
theorem qp1(cf:Pt) (k:Int) (progs:List (List St)):(q8b cf k progs).cf=cf/\(q8b cf k progs).part=k/\(q8b cf k progs).evs = []:=by
 have h:=q6g (f:=λs k=>q0m s k 0) (λs k=>q4t s k 0) (qab cf k progs) (qd1 cf.procs.l).length;obtain⟨l,h1,h2,_⟩:=h.ev;have:l = []:=List.length_eq_zero_iff.1 zo;subst this;exact⟨h.cf,h.pa,by rw[show q8b cf k progs=_ from rfl];rw[q8b,h1];rfl⟩
theorem q6j{α : Type} (z : α) (l:List α) (p q:Nat) (v : α) (hp:p < l.length):atD z (l.set p v) q=if q=p then v else atD z l q:=Me.atD_set _ _ _ _ _ hp
structure CsP(p:Nat) (s s':Sy):Prop where
 n:s'.cs.length=s.cs.length
 e:ExE (atD Ce0 s.cs p) (atD Ce0 s'.cs p)
 o:∀ q,q≠p->atD Ce0 s'.cs q=atD Ce0 s.cs q
 ev:s'.evs=s.evs
 sn:s'.seen=s.seen
theorem CsP.refl(p:Nat) (s:Sy):CsP p s s:=⟨rfl,ExE.refl _,λ_ _=>rfl,rfl,rfl⟩
theorem CsP.trans{p:Nat} {a b c:Sy} (h:CsP p a b) (k:CsP p b c):CsP p a c:=⟨k.n.trans h.n,h.e.trans k.e,λq hq=>(k.o q hq).trans (h.o q hq),k.ev.trans h.ev,k.sn.trans h.sn⟩
theorem CsP.set{p:Nat} {s s':Sy} {c:Ce} (hp:p < s.cs.length) (he:ExE (atD Ce0 s.cs p) c) (h:s'.cs=s.cs.set p c) (h1:s'.evs=s.evs) (h2:s'.seen=s.seen):CsP p s s':=by
 refine⟨by rw[h,List.length_set],?_,λq hq=>?_,h1,h2⟩
 .rw[h,q6j _ _ _ _ _ hp,if_pos rfl];exact he
 .rw[h,q6j _ _ _ _ _ hp,if_neg hq]
theorem qdp(cf:Cf) {p:Nat} (en:Int):∀ (n:Nat) (s:Sy),p < s.cs.length->CsP p s (q3e cf p en n s)
 | 0,s,_=>CsP.refl p s
 | n + 1,s,hp=>by
  unfold q3e;split
  .exact CsP.refl p s
  .have h:CsP p s (q5z cf p en s):=CsP.set hp (qp0 _ _) rfl rfl rfl;exact h.trans (qdp cf en n _ (by rw[h.n];exact hp))
structure EvI(cf:Cf) (s:Sy):Prop where
 n:s.cs.length=cf.parts.l.length
 sn:s.seen.length=cf.parts.l.length
 c:∀ p,p < cf.parts.l.length->(atD Ce0 s.cs p).cf=atD Pt0 cf.parts.l p/\(atD Ce0 s.cs p).part=p/\q3g (atD Pt0 cf.parts.l p).acts.l p (atD Ce0 s.cs p).evs
 f:∀ p:Nat,p < cf.parts.l.length->s.evs.filter (λe=>e.part == (p:Int))=(atD Ce0 s.cs p).evs
 z:∀ p,p < cf.parts.l.length->s.seen.getD p 0=(atD Ce0 s.cs p).evs.length
 r:∀ e ∈ s.evs,0<=e.part/\e.part < cf.parts.l.length
theorem q3g.parts{acts:List Int} {pt:Int} : ∀ {l:List Ev},q3g acts pt l->∀ e ∈ l,e.part=pt
 | [],_,e,h=>absurd h List.not_mem_nil
 | [v],h,e,he=>by rw[List.mem_singleton.1 he];exact h.2
 | v :: u :: l,h,e,he=>by
  rcases List.mem_cons.1 he with rfl | he
  .exact h.1.2
  .exact q3g.parts h.2 e he
theorem EvI.collect{cf:Cf} {s s1:Sy} {p:Nat} (I:EvI cf s) (hp:p < cf.parts.l.length) (h:CsP p s s1):EvI cf (q2t s1 p):=by
 have hp1:p < s1.cs.length:=by rw[h.n,I.n];exact hp
 obtain⟨l,e1,e2⟩:=h.e.ev;obtain⟨c1,c2,c3⟩:=I.c p hp;rw[c1,c2]at e2
 have hl:=e2.parts;have hd:(atD Ce0 s1.cs p).evs.drop (s1.seen.getD p 0)=l:=by rw[h.sn,I.z p hp,e1,List.drop_left]
 have h0:(q2t s1 p).evs=s.evs ++ l:=by unfold q2t;dsimp only;rw[hd,h.ev]
 refine⟨?_,?_,λq hq=>?_,λq hq=>?_,λq hq=>?_,λe he=>?_⟩
 .exact h.n.trans I.n
 .unfold q2t;dsimp only;rw[List.length_set,h.sn];exact I.sn
 .show(atD Ce0 s1.cs q).cf=_/\(atD Ce0 s1.cs q).part=_/\q3g _ _ (atD Ce0 s1.cs q).evs;by_cases e:q=p
  .subst e;exact⟨h.e.cf.trans c1,h.e.pa.trans c2,by rw[e1];exact c3.app e2⟩
  .rw[h.o q e];exact I.c q hq
 .rw[h0,List.filter_append,I.f q hq];show _=(atD Ce0 s1.cs q).evs;by_cases e:q=p
  .subst e;rw[e1,List.filter_eq_self.2 (λx hx=>by simp[hl x hx])]
  .rw[h.o q e,List.filter_eq_nil_iff.2 (λx hx=>by simp[hl x hx];omega),List.append_nil]
 .show(s1.seen.set p (atD Ce0 s1.cs p).evs.length).getD q 0=(atD Ce0 s1.cs q).evs.length;have hs:p < s1.seen.length:=by rw[h.sn,I.sn];exact hp
  rw[List.getD_eq_getElem?_getD,List.getElem?_set];by_cases e:q=p
  .subst e;simp[hs]
  .rw[if_neg (λe'=>e e'.symm),h.o q e,h.sn,<- List.getD_eq_getElem?_getD,I.z q hq]
 .rw[h0]at he
  rcases List.mem_append.1 he with he | he
  .exact I.r e he
  .rw[hl e he];omega
theorem EvI.work{cf:Cf} {s:Sy} {p:Nat} (I:EvI cf s) (hp:p < cf.parts.l.length) (en:Int):EvI cf (q5i cf s p en):=by
 have h0:p < s.cs.length:=by rw[I.n];exact hp
 have h1:CsP p s { s with cs:=s.cs.set p (q2g (atD Ce0 s.cs p)),g:=qf4 s.g }:=CsP.set h0 (qau _) rfl rfl rfl;exact I.collect hp (h1.trans (qdp cf en _ _ (by rw[h1.n];exact h0)))
structure SmE(a b:List Ce):Prop where
 n:b.length=a.length
 e:∀ q,∃ l,atD Ce0 b q=setPts (atD Ce0 a q) l
theorem SmE.refl(a:List Ce):SmE a a:=⟨rfl,λ_=>⟨_,rfl⟩⟩
theorem SmE.trans{a b c:List Ce} (h:SmE a b) (k:SmE b c):SmE a c:=⟨k.n.trans h.n,λq=>by obtain⟨l,e⟩:=h.e q;obtain⟨m,f⟩:=k.e q;exact⟨m,by rw[f,e];rfl⟩⟩
theorem SmE.set(a:List Ce) (p:Nat) (l:List Ps):SmE a (a.set p (setPts (atD Ce0 a p) l)):=by
 refine⟨List.length_set,λq=>?_⟩;by_cases hp:p < a.length
 .rw[q6j _ _ _ _ _ hp];by_cases e:q=p
  .subst e;rw[if_pos rfl];exact⟨_,rfl⟩
  .rw[if_neg e];exact⟨_,rfl⟩
 .rw[List.set_eq_of_length_le zo];exact⟨_,rfl⟩
theorem SmE.deliver(cf:Cf) (a:List Ce) (m:Mg):SmE a (q0v cf a m):=by
 unfold q0v;split
 .exact SmE.refl a
 .dsimp only;split
  .exact SmE.refl a
  .exact SmE.set a _ _
theorem SmE.fold(cf:Cf):∀ (l:List Mg) (a:List Ce),SmE a (l.foldl (q0v cf) a)
 | [],a=>SmE.refl a
 | m :: l,a=>(SmE.deliver cf a m).trans (SmE.fold cf l _)
theorem EvI.same{cf:Cf} {s s':Sy} (I:EvI cf s) (h:SmE s.cs s'.cs) (h1:s'.evs=s.evs) (h2:s'.seen=s.seen):EvI cf s':=by
 refine⟨h.n.trans I.n,by rw[h2];exact I.sn,λq hq=>?_,λq hq=>?_,λq hq=>?_,by rw[h1];exact I.r⟩
 .obtain⟨l,e⟩:=h.e q;rw[e];exact I.c q hq
 .obtain⟨l,e⟩:=h.e q;rw[h1,e];exact I.f q hq
 .obtain⟨l,e⟩:=h.e q;rw[h2,e];exact I.z q hq
theorem EvI.slot{cf:Cf} {s:Sy} {x:Wn} (I:EvI cf s) (h0:0<=x.part) (h1:x.part < cf.parts.l.length) (at_:Int) (r:Bool):EvI cf (qbf cf s x at_ r):=by
 unfold qbf;dsimp only;have I1:EvI cf (q1w { s with g:=q2p cf.pw s.g (wrap64 (at_ + x.start)) } (wrap64 (at_ + x.start)) x.part):=I.same (SmE.refl _) rfl rfl;generalize q1w { s with g:=q2p cf.pw s.g (wrap64 (at_ + x.start)) } (wrap64 (at_ + x.start)) x.part=s1 at *;have I2:EvI cf (if r=true then s1 else q5i cf s1 x.part.toNat (wrap64 (wrap64 (at_ + x.start) + x.len))):=by
  split
  .exact I1
  .exact I1.work zo _
 generalize (if r=true then s1 else q5i cf s1 x.part.toNat (wrap64 (wrap64 (at_ + x.start) + x.len)))=s2 at *;have I3:EvI cf (q1w { s2 with g:=q2p cf.pw s2.g (wrap64 (wrap64 (at_ + x.start) + x.len)) } (wrap64 (wrap64 (at_ + x.start) + x.len)) (-1)):=I2.same (SmE.refl _) rfl rfl;split
 .exact I3
 .exact I3.same ((SmE.set _ _ _).trans (SmE.fold cf _ _)) rfl rfl
theorem EvI.slots{cf:Cf} {p:Ca.Pg} : ∀ (l:List Wn) {s:Sy},EvI cf s->(∀ x ∈ l,0<=x.part/\x.part < cf.parts.l.length)->EvI cf (l.foldl (q4e cf p) s)
 | [],_,I,_=>I
 | x :: l,s,I,h=>EvI.slots l (I.slot (h x zp).1 (h x zp).2 _ _) (λy hy=>h y (by simp[hy]))
theorem EvI.frame{cf:Cf} {s:Sy} {p:Ca.Pg} {f:Fm} (I:EvI cf s) (h:∀ x ∈ (atD Md0 cf.modes.l p.mode.toNat).wins.l,0<=x.part/\x.part < cf.parts.l.length):EvI cf (q1x cf s p f) :=
 (EvI.slots _ (I.same (s':=qna cf s f) (SmE.refl _) rfl rfl) h).same (SmE.refl _) rfl rfl
theorem EvI.run{cf:Cf} : ∀ (l:List (Ca.Pg×Fm)) {s:Sy},EvI cf s->(∀ y ∈ l,∀ x ∈ (atD Md0 cf.modes.l y.1.mode.toNat).wins.l,0<=x.part/\x.part < cf.parts.l.length)->EvI cf (qdz cf s l)
 | [],_,I,_=>I
 | y :: l,s,I,h=>EvI.run l (I.frame (h y zp)) (λz hz=>h z (by simp[hz]))
theorem q3g.next{acts:List Int} {pt:Int} : ∀ {l:List Ev},q3g acts pt l->∀ k,k < l.length->qxb (atD Ev0 l k)->k + 1 < l.length/\qvz acts (atD Ev0 l k) (atD Ev0 l (k + 1))
 | [],_,k,hk,_=>by simp at hk
 | [v],h,k,hk,hb=>by
  obtain rfl:k=0:=by simpa using hk
  exact absurd hb h.1
 | v :: u :: l,h,k,hk,hb=>by
  cases k with
  | zero=>exact⟨zp,h.1.1 hb⟩
  | succ k =>
   have:=q3g.next h.2 k (by simpa using hk) hb;exact⟨by simpa using this.1,this.2⟩
theorem qp8(l:List Ev):∀ u ∈ l.flatMap Ev.f,u.oneCell'=true:=λu hu=>by
 obtain⟨y,_,hy⟩:=List.mem_flatMap.1 hu;rcases List.mem_cons.1 hy with rfl | hy
 .rfl
 .simp only[List.mem_cons,List.not_mem_nil,or_false]at hy;rcases hy with rfl | rfl | rfl | rfl | rfl <;> rfl
theorem ql4{o:Gh} {x:Cx} {s:Ce} (R:CeR w o pt c x s) (hn:s.evs.length<=100000000000):cP 193 #[pp c] w λe w'=>qo9 w s.evs.length (s.evs.flatMap Ev.f) 67 e w':=by
 have hD:=q60 R;have c21:=R.c21;have lt:=R.k.1.lt;have hC:=zhd (qkl R.ev.1.sl (qp8 _) hn);clear hn;refine inC ?_;go_in;go_wp2_with (first
  | (go_at_call 123;refine(hD).mono ?_;rintro _ _ ⟨rfl,rfl⟩)
  | (go_at_call 263;refine(hC.out).mono ?_;rintro _ w2 ⟨A,c',rfl,h⟩))
 go_returns;exact⟨A,c',rfl,h⟩
def qwu(w:World) (p:Prop) (e:Ending) (w':World):Prop:=∃ b,e = .returned (.bool b)/\(b=true->p)/\bW w w'
theorem qlc{h:Hd (Hd St)} (hl:qkn.ok w h):cP 34 #[.slice h.A h.l.length h.c] w (qwu w True):=by
 have hn:=hl.1.len;have hw:=Below.refl w.heap.size w;obtain⟨wo,rfl⟩:∃ wo:World,wo=w:=⟨_,rfl⟩
 refine inC ?_;go_in;go_upto_region 1 with fail;by_cases h1:20 < h.l.length
 .have _d:=True.intro;go_wp2_with fail;go_ret;exact⟨false,rfl,λ_=>trivial,hw⟩
 .have _d:=True.intro;go_wp2_with fail;go_loopw [3] (λi wr=>∃ k:Nat,i = .int .i64 k/\k<=h.l.length/\bW wo wr) (λi _=>h.l.length - (intOf i).toNat)
  case atStart=>exact⟨0,rfl,Nat.zero_le _,hw⟩
  case round =>
   obtain⟨k,rfl,hkn,h0⟩:=hrel;by_cases hk:k < h.l.length
   .obtain⟨sb,so,hA,hsb,h3⟩:=(qkn.keep hl h0).1.at_ qhb hk;rw[show qoa.sz=1 from rfl,Nat.mul_one]at h3
    have s0:wr.cell? ⟨sb,so + k,none⟩=some (.slice (atD qhb h.l k).A (atD qhb h.l k).l.length (atD qhb h.l k).c):=h3 0 _ rfl;clear h3;generalize atD qhb h.l k=x at *;have hw1:wrap64 ((k:Int) + 1)=((k + 1:Nat):Int):=by unfold wrap64;omega
    rw[hA];clear hw hl hA;by_cases h2:100 < x.l.length
    .go_wp2_with fail;go_ret;exact⟨false,rfl,λ_=>trivial,h0⟩
    .go_wp2_with fail;exact⟨⟨k + 1,by go_num,hk,h0⟩,by simp[intOf];omega⟩
   .obtain rfl:k=h.l.length:=zo;clear hl;go_wp2_with fail;go_ret;exact⟨true,rfl,λ_=>trivial,h0⟩
def z21(cf:Cf) (sc:Sc):Prop:=(∀ p,p < cf.parts.l.length->(atD Pt0 cf.parts.l p).cap<=300)/\sc.frames.l.length<=70/\sc.progs.l.length<=20/\cf.parts.l.length<=100
theorem qwv{cf:Cf} {sc:Sc} (hx:q1k.ok w cf) (hs:q73.ok w sc) :
  cP 21 #[.agg (Cf.lw cf),.agg #[.slice sc.progs.A sc.progs.l.length sc.progs.c,.slice sc.frames.A sc.frames.l.length sc.frames.c]] w (qwu w (z21 cf sc)):=by
 have b0:bW w ((w.alloc (.cells (Cf.lw cf) 33)).alloc (.cells #[.slice sc.progs.A sc.progs.l.length sc.progs.c,.slice sc.frames.A sc.frames.l.length sc.frames.c] 37)):=zv;have kp:=(Blk.new w 33 (Cf.lw cf)).alloc (.cells #[.slice sc.progs.A sc.progs.l.length sc.progs.c,.slice sc.frames.A sc.frames.l.length sc.frames.c] 37);have ks:=Blk.new (w.alloc (.cells (Cf.lw cf) 33)) 37 #[.slice sc.progs.A sc.progs.l.length sc.progs.c,.slice sc.frames.A sc.frames.l.length sc.frames.c];rw[World.size_alloc]at ks
 have hn:=hs.1.1.len;have hn2:=hs.2.1.len;have hn3:=hx.1.1.len;have HX:=zhd (q1k.keep hx b0);have HS:=zhd (q73.keep hs b0);clear hx hs;obtain⟨wo,rfl⟩:∃ wo:World,wo=w:=⟨_,rfl⟩
 refine inC ?_;go_in;go_upto_region 1 with fail;generalize (wo.alloc (.cells (Cf.lw cf) 33)).alloc (.cells #[.slice sc.progs.A sc.progs.l.length sc.progs.c,.slice sc.frames.A sc.frames.l.length sc.frames.c] 37)=w1 at *;obtain⟨g,hg⟩:∃ g,g=wo.heap.size:=⟨_,rfl⟩
 rw[<- hg]at kp ks ⊢
 clear hg;have h9:=zhd kp;have hd:=zhd ks;have c0:w1.cell? ⟨g,0,none⟩=some (.slice cf.parts.A cf.parts.l.length cf.parts.c):=kp.cell 0;have d0:w1.cell? ⟨g + 1,0,none⟩=some (.slice sc.progs.A sc.progs.l.length sc.progs.c):=ks.cell 0;have d1:w1.cell? ⟨g + 1,1,none⟩=some (.slice sc.frames.A sc.frames.l.length sc.frames.c):=ks.cell 1;have lg:=ks.lt;clear kp ks;by_cases h1:70 < sc.frames.l.length
 .have _d:=True.intro;go_wp2_with fail;go_ret;exact⟨false,rfl,(λh=>by cases h),b0⟩
 have _d:=True.intro;by_cases h2:20 < sc.progs.l.length
 .have _d:=True.intro;go_wp2_with fail;go_ret;exact⟨false,rfl,(λh=>by cases h),b0⟩
 have _d:=True.intro;by_cases h3:100 < cf.parts.l.length
 .have _d:=True.intro;go_wp2_with fail;go_ret;exact⟨false,rfl,(λh=>by cases h),b0⟩
 have _d:=True.intro;have H7:Hid (sc.frames.l.length<=70/\sc.progs.l.length<=20/\cf.parts.l.length<=100):=⟨zo,zo,zo⟩
 go_upto_region 4 with fail;have h8:=zhd b0;clear c0 d0 d1 lg b0;go_loopw [5] (λi wr=>∃ k:Nat,i = .int .i64 k/\k<=cf.parts.l.length/\(∀ p,p < k->(atD Pt0 cf.parts.l p).cap<=300)/\bW w1 wr) (λi _=>cf.parts.l.length - (intOf i).toNat)
 case atStart=>exact⟨0,rfl,Nat.zero_le _,(λp hp=>absurd hp (Nat.not_lt_zero p)),bR⟩
 case round =>
  obtain⟨k,rfl,hkn,HQ,h0⟩:=hrel;replace HQ:=zhd HQ;have c0:wr.cell? ⟨g,0,none⟩=some (.slice cf.parts.A cf.parts.l.length cf.parts.c):=(h9.out.keep h0).cell 0;have lg:=(h9.out.keep h0).lt;have hB:=bt h8.out h0;by_cases hk:k < cf.parts.l.length
  .obtain⟨sb,so,hA,hf,h4⟩:=(q53.keep HX.out.1 h0).1.at_ Pt0 hk;rw[show qcu.sz=11 from rfl]at h4
   have s7:wr.cell? ⟨sb,so + k * 11 + 7,none⟩=some (ii (atD Pt0 cf.parts.l k).cap):=h4 7 _ rfl;clear h4;have HN:Hid ((atD Pt0 cf.parts.l k).cap<=300->∀ p,p < k + 1->(atD Pt0 cf.parts.l p).cap<=300):=λh j hj=>by
    by_cases e:j=k
    .rw[e];exact h
    .exact HQ.out j zo
   generalize (atD Pt0 cf.parts.l k).cap=x at s7 HN;have hh:wrap64 ((k:Int) + 1)=((k + 1:Nat):Int):=by unfold wrap64;omega
   rw[hA]at c0
   clear hA HQ;by_cases h2:300 < x
   .go_wp2_with fail;go_ret;exact⟨false,rfl,(λh=>by cases h),hB⟩
   .go_wp2_with fail;exact⟨⟨k + 1,by go_num,hk,HN.out zo,h0⟩,by simp[intOf];omega⟩
  .obtain rfl:k=cf.parts.l.length:=zo;clear hk;go_upto_region 9 with fail;have h5:=zhd h0;clear c0 lg;go_loopw [6] (λi wr=>∃ k:Nat,i = .int .i64 k/\k<=sc.progs.l.length/\bW w1 wr) (λi _=>sc.progs.l.length - (intOf i).toNat)
   case atStart=>exact⟨0,rfl,Nat.zero_le _,h5.out⟩
   case round =>
    clear hB h0 h5;obtain⟨k,rfl,hkn2,h0⟩:=hrel;have hB:=bt h8.out h0;have h6:=(hd.out.keep h0)
    have d0:wr.cell? ⟨g + 1,0,none⟩=some (.slice sc.progs.A sc.progs.l.length sc.progs.c):=h6.cell 0;have lg:=h6.lt;clear h6;by_cases hk:k < sc.progs.l.length
    .obtain⟨sb,so,hA,hf,h4⟩:=(qh9.keep HS.out.1 h0).1.at_ Pr0 hk;have hb:=(qh9.keep HS.out.1 h0).2 _ (q0h (d:=Pr0) hk);rw[show qkn.sz=1 from rfl,Nat.mul_one]at h4
     have s0:wr.cell? ⟨sb,so + k,none⟩=some (.slice (atD Pr0 sc.progs.l k).A (atD Pr0 sc.progs.l k).l.length (atD Pr0 sc.progs.l k).c):=h4 0 _ rfl;have hP:=qlc hb;have hh:wrap64 ((k:Int) + 1)=((k + 1:Nat):Int):=by unfold wrap64;omega
     rw[hA]at d0
     clear h4 hb hA;have hc:=zhd hB;have h5:=zhd h0;clear hB h0;go_upto_region 10 with ((go_at_call 34;refine(hP).mono ?_;rintro _ w8 ⟨b,rfl,-,ha⟩);have he:=bt hc.out ha;have h7:=bt h5.out ha;cases b)
     .go_returns;exact⟨false,rfl,(λh=>by cases h),he⟩
     .go_wp2_with fail;exact⟨⟨k + 1,by go_num,hk,h7⟩,by simp[intOf];omega⟩
    .obtain rfl:k=sc.progs.l.length:=zo;go_wp2_with fail;go_returns;exact⟨true,rfl,λ_=>⟨HQ.out,H7.out⟩,hB⟩
def z2n(cf:Cf) (sc:Sc):Prop:=cf.short/\z21 cf sc
theorem qpt{cf:Cf} {sc:Sc} (hx:q1k.ok w cf) (hs:q73.ok w sc) :
  cP 6 #[.agg (Cf.lw cf),.agg #[sc.progs.hq,sc.frames.hq]] w (qwu w (z2n cf sc)):=by
 have b0:bW w ((w.alloc (.cells (Cf.lw cf) 33)).alloc (.cells #[sc.progs.hq,sc.frames.hq] 37)):=zv;have kp:=(Blk.new w 33 (Cf.lw cf)).alloc (.cells #[sc.progs.hq,sc.frames.hq] 37);have ks:=Blk.new (w.alloc (.cells (Cf.lw cf) 33)) 37 #[sc.progs.hq,sc.frames.hq];rw[World.size_alloc]at ks
 have HX:=zhd (q1k.keep hx b0);have HS:=zhd (q73.keep hs b0);clear hx hs;obtain⟨wo,rfl⟩:∃ wo:World,wo=w:=⟨_,rfl⟩
 refine inC ?_;go_in;go_upto_region 1 with fail;generalize (wo.alloc (.cells (Cf.lw cf) 33)).alloc (.cells #[sc.progs.hq,sc.frames.hq] 37)=w1 at *;obtain⟨g,hg⟩:∃ g,g=wo.heap.size:=⟨_,rfl⟩
 rw[<- hg]at kp ks ⊢
 clear hg;have h2:=zhd kp;have h3:=zhd ks;have h1:=zhd b0;obtain⟨kc,lg⟩:=kp.cl;have hS:=qpf HX.out;clear kp ks b0;go_wp2_with (first | ((go_at_call 20;refine(hS).mono ?_;rintro _ w2 ⟨b,rfl,h6,h0⟩);obtain⟨kc2,lg2⟩:=(h2.out.keep h0).cl;obtain⟨tc2,tg2⟩:=(h3.out.keep h0).cl;have hF:=qwv (q1k.keep HX.out h0) (q73.keep HS.out h0);cases b) | (go_at_call 21;refine(hF).mono ?_;rintro _ w3 ⟨b3,rfl,h5,h4⟩))
 .go_returns;exact⟨false,rfl,(λh=>by cases h),bt h1.out h0⟩
 .go_returns;exact⟨b3,rfl,λh=>⟨h6 trivial,h5 h⟩,bt (bt h1.out h0) h4⟩
section
open Go.RowKit Go.Shelf
attribute [local go_sem] Oper.semAt_some
def qbl(p:Pw) (x:Ls) (en:Int) (k:Nat):List Int:=((List.range k).filter λj=>decide (q7l p x j<=en)).map λ(j:Nat)=>(j:Int)
theorem qat(p:Pw) (x:Ls) (en:Int) (k:Nat):qbl p x en (k + 1)=qbl p x en k ++ (if q7l p x k<=en then [(k:Int)] else []):=by
 unfold qbl;rw[List.range_succ,List.filter_append,List.map_append];by_cases h:q7l p x k<=en <;> simp[h]
theorem qcc(p:Pw) (x:Ls) (en:Int) {k:Nat} (hf:q7l p x k<=en):∀ {n:Nat},k < n->∃ r,qbl p x en n=qbl p x en k ++ (k:Int) :: r
 | 0,h=>absurd h zo
 | n + 1,h=>by
  by_cases q:k=n
  .subst q;exact⟨[],by rw[qat,if_pos hf]⟩
  .obtain⟨r,hr⟩:=qcc p x en hf (n:=n) zo;exact⟨r ++ _,by rw[qat,hr,List.append_assoc,List.cons_append]⟩
theorem qsp(p:Pw) (x:Ls) (en:Int) (k:Nat):(qbl p x en k).length<=k:=by
 unfold qbl;rw[List.length_map];exact Nat.le_trans (List.length_filter_le _ _) zp
theorem qsq{p:Pw} {x:Ls} {en:Int} {k:Nat} (h:a ∈ qbl p x en k):∃ j:Nat,a=j/\j < k:=by
 unfold qbl at h;rw[List.mem_map]at h
 obtain⟨j,hj,rfl⟩:=h;rw[List.mem_filter,List.mem_range]at hj
 exact⟨j,rfl,hj.1⟩
theorem qfz{p:Pw} {x:Ls} {en:Int} (hp:q1y.ok wa p) (hx:x.ok) (hwa:bW wa w) {gx gp ge:Nat} (kx:Blk w gx 431 (Ls.lw x)) (kp:Blk w gp 28 (Pw.lw p)) (ke:Blk w ge 3 #[ii en])
  {K:Nat->Prop} (hK1:∀ b,b < wa.heap.size->K b) (hKx:K gx) (hKp:K gp) (hKe:K ge) :
  qx7 Tryz.prog 382 #[pp gx,pp gp,pp ge] (qqs (q8r p x en)) (q8r p x en).length K w:=by
 intro l J Jx T W hW hJ hJx hT0 hTb hY h0;replace kx:=kx.fr hW (λh=>h hKx);replace kp:=kp.fr hW (λh=>h hKp);replace ke:=ke.fr hW (λh=>h hKe);have h5:bW wa W:=hwa.trans (hW.below (λb hb h=>h (hK1 b hb)) hwa.size);have cx:=kx.cell;have cp:=kp.cell;have lx:=kx.lt;have lp:=kp.lt;have hn:=hp.1.1.len;have hM:=λw' hb=>qrb (w:=w') (x:=x) (q1y.keep hp hb);cases hm:qh1 p x with
 | false =>
  have hS:q8r p x en = []:=by unfold q8r;rw[hm];rfl
  rw[hm]at hM
  rw[hS]at hY ⊢
  refine inC ?_;go_in;go_wp2_with (first | (go_at_call 383;refine(up (W:=W) (hM _ h5) zv).mono ?_;rintro _ w1 ⟨rfl,hb,hs,hc,hf,hl,hB⟩));go_returns;exact⟨⟨_,rfl⟩,T,fO hb _,(λb h=>⟨.inl h,hl _ (hTb b h)⟩),.inl (hJ _ _ _ _ h0 (fO hb _))⟩
 | true =>
  have hS:q8r p x en=qbl p x en p.levels.l.length:=by unfold q8r;rw[hm];rfl
  rw[hm]at hM
  rw[hS]at hY ⊢
  clear hm hS;refine inC ?_;go_in;go_wp2_with (first | (go_at_call 383;refine(up (W:=W) (hM _ h5) zv).mono ?_;rintro _ w1 ⟨rfl,hb,hs,hc,hf,hl,hB⟩));go_loopw [13] (λi wr=>∃ (k:Nat) (T':Nat->Prop),i = .int .i64 k/\k<=p.levels.l.length/\Fr T W wr/\Grw T T' W wr/\J (qbl p x en k).length T' wr) (λi _=>p.levels.l.length - (intOf i).toNat)
  case atStart=>exact⟨0,T,rfl,Nat.zero_le _,fO hb _,(λb h=>⟨.inl h,hl _ (hTb b h)⟩),hJ _ _ _ _ h0 (fO hb _)⟩
  case round =>
   clear hc hf hl hb hs hB cx cp lx lp;obtain⟨k,T',rfl,hkn,hF,hG,ha⟩:=hrel;by_cases hk:k < p.levels.l.length
   .have hg:=kx.fr hF (λh=>hT0 _ h hKx);have he:=kp.fr hF (λh=>hT0 _ h hKp);have h6:=ke.fr hF (λh=>hT0 _ h hKe);have hd:bW wa wr:=h5.trans (hF.below (λb hb h=>hT0 b h (hK1 b hb)) h5.size);have cx:=hg.cell;have cp:=he.cell;have ce:=h6.cell;have lx:=hg.lt;have lp:=he.lt;have le:=h6.lt;have hw1:wrap64 ((k:Int) + 1)=((k + 1:Nat):Int):=by unfold wrap64;omega
    have hs:=qat p x en k;have h7:=λh=>qcc p x en (k:=k) h hk;have hT:=λw' hb=>qia (w:=w') (q1y.keep hp hb) hx hk;generalize q7l p x k=e1 at *;have h2:∀ W1,bW wr W1->Fr T W W1/\Grw T T' W W1/\J (qbl p x en k).length T' W1:=λW1 hb=>⟨hF.trans (fO hb _),λb h=>⟨(hG b h).1,Nat.lt_of_lt_of_le (hG b h).2 hb.size⟩,hJ _ _ _ _ ha (fO hb _)⟩
    by_cases q:e1<=en
    .have b1:decide (e1<=en)=true:=decide_eq_true q;rw[if_pos q]at hs
     obtain⟨r,hr⟩:=h7 q;have hh:∀ W1,bW wr W1->YieldAt Fence.wide 0 Tryz.prog l #[ii k] W1 λe W'=>∃ T2 b,Fr T W W'/\Grw T T2 W W'/\e = .returned (.bool b)/\((b=true/\J ((qbl p x en k).length + 1) T2 W')\/(b=false/\Jx ((qbl p x en k).length + 1) T2 W')):=λW1 hb=>by
      obtain⟨f1,f2,f3⟩:=h2 W1 hb;have:=hY (qbl p x en k).length T' W1 (by rw[hr];simp) f3 f2.bnd;rw[show qqs (qbl p x en p.levels.l.length) (qbl p x en k).length = #[ii k] by unfold qqs;rw[hr,qms]]at this
      obtain⟨fn,h4,h1,h3,hy,hR⟩:=this;refine⟨fn,h4,h1,h3,hy,hR.mono ?_⟩;rintro e W' ⟨T2,g1,g2,(⟨rfl,g3⟩ | ⟨rfl,g3⟩)⟩
      .exact⟨T2,true,f1.grw f2 g1,f2.trans f1.size g2,rfl,.inl ⟨rfl,g3⟩⟩
      .exact⟨T2,false,f1.grw f2 g1,f2.trans f1.size g2,rfl,.inr ⟨rfl,g3⟩⟩
     have HS:=zhd (show(qbl p x en (k + 1)).length=(qbl p x en k).length + 1 by rw[hs];simp);have HN:=zhd (show(qbl p x en k).length + 1<=(qbl p x en p.levels.l.length).length by rw[hr];simp);clear hs hr h7 h2 q;go_wp2_with fail;refine(wpIn_wide (n:=1)).1 ?_;gi_region_with (first | (refine⟨trivial,callsIn_wide.2 ((up (W:=wr) (hT _ (bt hd zv)) zv).mono ?_)⟩;rintro _ w5 ⟨rfl,hb,hs,hc,hf,hl,hB⟩;obtain⟨fn,h4,h1,h3,hy,hR⟩:=hh w5 hb;obtain⟨ce,le⟩:=(h6.keep hb).cl) | (refine hR.mono ?_;rintro _ w6 ⟨T2,b,h8,h9,rfl,hq⟩))
     all_goals (
      rcases hq with ⟨rfl,hJ6⟩ | ⟨rfl,hJx6⟩
      .gi_wp2
       go_wp2_with fail;exact⟨⟨k + 1,T2,by go_num,hk,h8,h9,by rw[HS.out];exact hJ6⟩,by simp[intOf];omega⟩
      .gi_wp2
       go_wp2_with fail;go_returns;exact⟨⟨_,rfl⟩,T2,h8,h9,.inr ⟨_,HN.out,hJx6⟩⟩)
    .have b1:decide (e1<=en)=false:=decide_eq_false q;rw[if_neg q,List.append_nil]at hs
     have HS:=zhd (congrArg List.length hs);have HN:=zhd h2;clear hs h7 q h2;go_wp2_with fail;refine zW [(3,0),(5,0)] λK' hK'=>?_;go_wp2_with fail;refine(hT _ (bt hd bR.drew)).mono ?_;rintro _ w5 ⟨rfl,hj⟩;have B5:=bt bR.drew hj;refine zG (fO B5 _) ?_;clear hK' K';refine wpQuiet_nil (q48 rfl ?_);refine zN ?_;refine wpQuiet_nil ?_;go_wp2_with fail;obtain⟨g1,g2,g3⟩:=HN.out _ B5;exact⟨⟨k + 1,T',by go_num,hk,g1,g2,by rw[HS.out];exact g3⟩,by simp[intOf];omega⟩
   .obtain rfl:k=p.levels.l.length:=zo;go_wp2_with fail;go_returns;exact⟨⟨_,rfl⟩,T',hF,hG,.inl ha⟩
end
section
open Go.RowKit Go.Shelf
attribute [local go_sem] Oper.semAt_some
theorem qg0{p:Pw} {x:Ls} {en:Int} (hp:q1y.ok wa p) (hx:x.ok) (hwa:bW wa w):cP 336 #[.agg (Pw.lw p),.agg (Ls.lw x),ii en] w λe w'=>e = .returned (.func (.func 382) #[] #[pp (w.heap.size + 1),pp w.heap.size,pp (w.heap.size + 2)])/\w'.heap.size=w.heap.size + 3 /\
   qx7 Tryz.prog 382 #[pp (w.heap.size + 1),pp w.heap.size,pp (w.heap.size + 2)] (qqs (q8r p x en)) (q8r p x en).length (λb=>b < wa.heap.size\/b=w.heap.size + 1\/b=w.heap.size\/b=w.heap.size + 2) w'/\bW w w':=by
 have hb:bW w (((w.alloc (.cells (Pw.lw p) 28)).alloc (.cells (Ls.lw x) 431)).alloc (.cells #[ii en] 3)):=zv;have kp:=((Blk.new w 28 (Pw.lw p)).alloc (.cells (Ls.lw x) 431)).alloc (.cells #[ii en] 3);have kx:=(Blk.new (w.alloc (.cells (Pw.lw p) 28)) 431 (Ls.lw x)).alloc (.cells #[ii en] 3);have ke:=Blk.new ((w.alloc (.cells (Pw.lw p) 28)).alloc (.cells (Ls.lw x) 431)) 3 #[ii en];simp only[World.size_alloc]at kx ke;refine inC ?_;go_in;go_wp2_with fail;go_ret;exact⟨rfl,by simp only[World.size_alloc],qfz hp hx (hwa.trans (hb.mono hwa.size)) kx kp ke (λb h => .inl h) (.inr (.inl rfl)) (.inr (.inr (.inl rfl))) (.inr (.inr (.inr rfl))),hb⟩
theorem qi2.of{v:Value} {L:List Int} (h:w'.ownsRow base 3 1 v L.length (L.map (.int .i64))) (hb:w.heap.size<=base) (B:bW w w'):qi2 w L (.returned v) w':=by
 obtain⟨A,c,rfl,o1,o2⟩:=Own.of h;exact⟨A,c,rfl,o1,λk hk=>Nat.le_trans hb (o2 k hk),B⟩
theorem ql2{l:List Int} {k:Nat} (h:k < l.length):l.take (k + 1)=l.take k ++ [at0 l k]:=by rw[List.take_succ_eq_append_getElem h,q2v h]
theorem qj0{p:Pw} {x:Ls} {en:Int} (hp:q1y.ok w p) (hx:x.ok) (hn:p.levels.l.length<=100000):cP 300 #[.agg (Pw.lw p),.agg (Ls.lw x),ii en] w λe w'=>qi2 w (q8r p x en) e w':=by
 have hN:(q8r p x en).length<=100000:=by
  unfold q8r;split
  .exact Nat.le_trans (qsp p x en _) hn
  .simp
 obtain⟨i0,z0,h8,hd,he,hg,hh⟩:=q27.i;have b2:bW w (((w.alloc (.cells (Pw.lw p) 28)).alloc (.cells (Ls.lw x) 431)).alloc (.cells #[.slice none 0 0] 29)):=zv;have ko:=Blk.new ((w.alloc (.cells (Pw.lw p) 28)).alloc (.cells (Ls.lw x) 431)) 29 #[.slice none 0 0];have ha:(((w.alloc (.cells (Pw.lw p) 28)).alloc (.cells (Ls.lw x) 431)).alloc (.cells #[.slice none 0 0] 29)).heap.size=w.heap.size + 3:=by simp only[World.size_alloc]
 simp only[World.size_alloc]at ko;have hA:=qg0 (en:=en) hp hx b2;rw[ha]at hA
 generalize q8r p x en=L at *;refine(callsIn_wide (n:=1)).1 (callsIn_of_wp_marks Tryz.func300 rfl trivial ?_ rfl);simp only[Tryz.ntmps300,List.size_toArray,List.length_cons,List.length_nil,Nat.reduceAdd,Nat.reduceSub,Array.replicate_succ,Array.replicate_zero,List.push_toArray,List.append_toArray,List.nil_append,List.cons_append];gi_wp2
 generalize ((w.alloc (.cells (Pw.lw p) 28)).alloc (.cells (Ls.lw x) 431)).alloc (.cells #[.slice none 0 0] 29)=w2 at *;refine⟨trivial,callsIn_wide.2 (hA.mono ?_)⟩;rintro _ w3 ⟨rfl,hs3,h5,h6⟩;have h7:=ko.keep (h6.mono zo);have B3:=b2.trans (h6.mono zo);clear hA;gi_wp2
 refine qd2 (gf:=382) rfl (enters_of Tryz.func382 zk rfl) h5 (λb h=>by omega) (Fr.refl _ _) (λ_=>rfl)
  (λk T W=>∃ v,Blk W (w.heap.size + 2) 29 #[v]/\W.ownsRow (w.heap.size + 3) 3 1 v k ((L.take k).map (.int .i64))/\T (w.heap.size + 2)/\∀ b,v.ownBlock=some b->T b)
  (λ_ _ _ _=>False) ?_ (λ_ _ _ _ _ h _=>h) (λb=>b=w.heap.size + 2) (λb h h'=>by omega) (λb h=>by have:=h7.lt;omega)
  ⟨.slice none 0 0,h7,World.ownsRow_nil _ _ _ _,rfl,λb h=>by cases h⟩
  (λk a' T W=>∃ v,a'={ tmps:=#[.agg (Pw.lw p),.agg (Ls.lw x),ii en,pp w.heap.size,pp (w.heap.size + 1),undef,.slice none 0 0,pp (w.heap.size + 2),ii (at0 L k),.agg (Pw.lw p),.agg (Ls.lw x),ii en,.func (.func 382) #[] #[pp (w.heap.size + 3 + 1),pp (w.heap.size + 3),pp (w.heap.size + 3 + 2)],ii (at0 L k),undef,undef,undef,undef,undef],defers:=[] }/\Blk W (w.heap.size + 2) 29 #[v]/\W.ownsRow (w.heap.size + 3) 3 1 v k ((L.take k).map (.int .i64))/\T (w.heap.size + 2)/\∀ b,v.ownBlock=some b->T b)
  ?_ ?_ ?_ ?_ ?_
 .rintro k T W W' ⟨v,h1,h2,h3,h4⟩ hf;exact⟨v,h1.fr hf (λh=>h.1 h3),q5d h2 hf (λb _ hb h=>h.1 (h4 b hb)),h3,h4⟩
 .rintro a' k T W W' ⟨v,rfl,h1,h2,h3,h4⟩ hf;exact⟨v,rfl,h1.fr hf (λh=>h.1 h3),q5d h2 hf (λb _ hb h=>h.1 (h4 b hb)),h3,h4⟩
 .rintro l k T W K hk ⟨v,h1,h2,h3,h4⟩ hT hK;simp only[qqs];gi_wp2
  exact hK _ T _ (Fr.refl _ _) (Grw.refl hT) ⟨v,rfl,h1,h2,h3,h4⟩
 .rintro l k a' T W hk ⟨v,rfl,h1,h2,h3,h4⟩ hT;have hc:=h1.cell 0;have hlo:=h1.lt;gi_wp2_with (gi_at_builtin;refine q8p W zr _ _ 29 zr (w.heap.size + 3) 3 i0 _ 1 8 1 q27.u h8 hd he hg hh zd zd _ k _ zr h2 #[ii (at0 L k)] rfl (by simp[Value.oneCell']) zr zo zo ?_;intro v' w4 hown4 hf4 hat4;obtain⟨A',c',rfl,-,-⟩:=Sl.of_own hown4;have h0:=h1.fr hf4 (λe=>qe0 h2 (show w.heap.size + 2 < w.heap.size + 3 by omega) e.symm);have hc4:w4.cell? ⟨w.heap.size + 2,0,none⟩=some v:=h0.cell 0;have hz4:w4.frozen? ⟨w.heap.size + 2,0,none⟩=false:=h0.frozen 0)
  have hs4:=hf4.size;refine⟨λb=>T b\/(W.heap.size<=b/\b < w4.heap.size),(hf4.mono (λb _ h=>h4 b h)).setCell (λ_=>h3) _,?_,⟨_,by simpa using h0.set_ 0 (.slice A' (k + 1) c'),?_,.inl h3,λb hb=>?_⟩⟩
  .rintro b (h | h)
   .exact⟨.inl h,by have:=hT b h;simp;omega⟩
   .exact⟨.inr h.1,by simpa using h.2⟩
  .rw[<- List.map_take,ql2 hk,List.map_append];exact q5d hown4 ((Fr.refl (· = w.heap.size + 2) w4).setCell (p:=⟨w.heap.size + 2,0,none⟩) (λ_=>rfl) _) (λb hb _ h=>by omega)
  .have h9:=(hown4.lt _ hb).2;rcases hat4 with h | ⟨g',h,hg'⟩
   .exact .inl (h4 b (h ▸ hb))
   .rw[h]at hb
    cases hb;exact .inr ⟨hg',h9⟩
 .rintro D T' W hD hnD hF hG ⟨v,h1,h2,h3,h4⟩ hK;have hc:=h1.cell 0;gi_wp2
  refine⟨zp,.inl ⟨_,_,rfl,run_takeDeferred hK,?_⟩⟩;rw[List.take_length]at h2
  have hs9:=B3.size;exact⟨_,results_tmp rfl _ _ _,qi2.of (ownsRow_putObj h2 _ hK rfl) zo (B3.trans ((hF.putObj (l:=D) (λh=>by omega) _).below (λb hb h=>by omega) zo))⟩
 .exact λ_ _ _ _ _ _ _ _ _ _ h _=>h.elim
end
theorem qj1{p:Pw} {x:Ls} {en:Int} (h:a ∈ q8r p x en):∃ j:Nat,a=j/\j < p.levels.l.length:=by
 unfold q8r at h;split at h
 .exact qsq h
 .simp at h
theorem ql3{p:Pw} {x:Ls} (hp:q1y.ok wa p) (hx:x.ok) (hwa:bW wa w) {gx gp:Nat} (kx:Blk w gx 431 (Ls.lw x)) (kp:Blk w gp 28 (Pw.lw p)) {a b:Nat} (ha:a < p.levels.l.length) (hb:b < p.levels.l.length) :
  cP 337 #[ii a,ii b,pp gx,pp gp] w λe w'=>e = .returned (ii (wrap64 (q4s p x a - q4s p x b)))/\bW w w':=by
 have hC:=λ(w':World) (h:bW w w') (j:Nat) (hj:j < p.levels.l.length)=>qn8 (w:=w') (q1y.keep hp (bt hwa h)) hx hj;have HC:=zhd hC;have HA:=zhd (And.intro ha hb);clear hC ha hb;have cp:=kp.cell;have cx:=kx.cell;have lp:=kp.lt;have lx:=kx.lt;refine inC ?_;go_in;go_wp2_with (((with_reducible refine qe4 [(3,0),(3,2)] ?_);(try simp only[q03,tkO,dpO]);(repeat(go_big_quiet_step (fail)));refine qwW (λK' hK'=>?_);go_wp2_with fail;go_at_call 338;refine(HC.out _ bR.drew _ HA.out.1).mono ?_;rintro _ w1 ⟨rfl,h0⟩;refine zGB (fO (bt bR.drew h0) _) ?_;clear hK' K';intro K' hK';go_wp2_with fail;go_at_call 338;refine(HC.out _ (bt bR.drew h0) _ HA.out.2).mono ?_;rintro _ w2 ⟨rfl,h1⟩;refine zE ?_;clear hK' K'));go_returns;exact⟨rfl,bt (bt bR.drew h0) h1⟩
theorem qzb(a b:Int) (k1 k2:Value) (w:World):Sem.run Tryz.prog (callFunc 337 #[ii a,ii b,k1,k2]) w = .ok (.enter 337 #[ii a,ii b,k1,k2]) w:=zk
theorem qou{p:Pw} {x:Ls} {en:Int} (hp:q1y.ok w p) (hx:x.ok) (hn:p.levels.l.length<=100000):cP 301 #[.agg (Pw.lw p),.agg (Ls.lw x),ii en] w λe w'=>e = .returned (ii (qib p x en))/\bW w w':=by
 have b0:bW w ((w.alloc (.cells (Pw.lw p) 28)).alloc (.cells (Ls.lw x) 431)):=zv;have kp:=(Blk.new w 28 (Pw.lw p)).alloc (.cells (Ls.lw x) 431);have kx:=Blk.new (w.alloc (.cells (Pw.lw p) 28)) 431 (Ls.lw x);rw[World.size_alloc]at kx
 refine inC ?_;go_in;go_upto_region 1 with fail;generalize ((w.alloc (.cells (Pw.lw p) 28)).alloc (.cells (Ls.lw x) 431))=w1 at *;obtain⟨gp,h5⟩:∃ gp,gp=w.heap.size:=⟨_,rfl⟩
 rw[<- h5]at kp kx ⊢
 clear h5;have HE:Hid (qib p x en=if (q8r p x en).length=0 then -1 else qf0 (λa b=>wrap64 (q4s p x a.toNat - q4s p x b.toNat)) (q8r p x en)):=rfl;have h4:=qj0 (w:=w1) (en:=en) (q1y.keep hp b0) hx hn;have h1:=zhd (λa h=>qj1 (p:=p) (x:=x) (en:=en) (a:=a) h);generalize q8r p x en=L at *;have HP:=zhd hp;have HB:=zhd b0;have HN:=zhd hn;have HX:=zhd hx;clear hp b0 hn hx;have cp:=kp.cell;have cx:=kx.cell;have lp:=kp.lt;have lx:=kx.lt;cases L with
 | nil =>
  have h2:=zhd (HE.out.trans (if_pos rfl));clear HE h1;go_wp2_with ((go_at_call 300;refine(h4).mono ?_;rintro _ w2 ⟨A,c,rfl,hO,h3,h0⟩);have cp:=(kp.keep h0).cell;have cx:=(kx.keep h0).cell;have lp:=(kp.keep h0).lt;have lx:=(kx.keep h0).lt);go_returns;exact⟨q0w h2.out.symm,bt HB.out h0⟩
 | cons y l =>
  have hE:=HE.out.trans (if_neg zp);have h2:=zhd hE;clear hE HE;go_upto_region 4 with ((go_at_call 300;refine(h4).mono ?_;rintro _ w2 ⟨A,c,rfl,hO,h3,h0⟩);have cp:=(kp.keep h0).cell;have cx:=(kx.keep h0).cell;have lp:=(kp.keep h0).lt;have lx:=(kx.keep h0).lt)
  have hi:∀ z ∈ y :: l,i64 z:=λz hz=>by
   obtain⟨j,rfl,hj⟩:=h1.out z hz;have:=HN.out;unfold i64;omega
  have hc:=kp.keep h0;have hd:=kx.keep h0;have B2:=bt HB.out h0;have hM:=qh3 (qi2.sl hO hi) (id:=337) (k1:=pp (gp + 1)) (k2:=pp gp) (cmp:=λa b=>wrap64 (q4s p x a.toNat - q4s p x b.toNat)) (λw a b=>qzb a b _ _ w) (λw' a b ha hb hw=>by
   obtain⟨ja,rfl,h8⟩:=h1.out a ha;obtain⟨jb,rfl,h9⟩:=h1.out b hb;exact ql3 HP.out HX.out (bt B2 hw) (hd.keep hw) (hc.keep hw) h8 h9)
  have h6:=zhd B2;clear B2 hi hO h3 h0 kp kx;go_wp2_with (go_at_call 269;refine(hM).mono ?_;rintro _ w3 ⟨rfl,h7⟩);go_returns;exact⟨q0w h2.out.symm,bt h6.out h7⟩
theorem qov{p:Pw} {x:Ls} {en ch:Int} (hp:q1y.ok w p) (hx:x.ok) (hn:p.levels.l.length<=100000) (hch:i64 ch):cP 257 #[.agg (Pw.lw p),.agg (Ls.lw x),ii en,ii ch] w λe w'=>e = .returned (ii (qf1 p x en ch))/\bW w w':=by
 have b0:bW w ((w.alloc (.cells (Pw.lw p) 28)).alloc (.cells (Ls.lw x) 431)):=zv;have kp:=(Blk.new w 28 (Pw.lw p)).alloc (.cells (Ls.lw x) 431);have kx:=Blk.new (w.alloc (.cells (Pw.lw p) 28)) 431 (Ls.lw x);rw[World.size_alloc]at kx
 refine inC ?_;go_in;go_upto_region 1 with fail;generalize ((w.alloc (.cells (Pw.lw p) 28)).alloc (.cells (Ls.lw x) 431))=w1 at *;obtain⟨gp,h9⟩:∃ gp,gp=w.heap.size:=⟨_,rfl⟩
 rw[<- h9]at kp kx ⊢
 clear h9;have HE:Hid (qf1 p x en ch=if ch < 1\/(q8r p x en).length=0 then qib p x en else at0 (q8r p x en) (((ch - 1) % (q8r p x en).length).toNat)):=rfl;have h5:=qj0 (w:=w1) (en:=en) (q1y.keep hp b0) hx hn;have h8:=zhd (λw' (h:bW w w')=>qou (w:=w') (en:=en) (q1y.keep hp h) hx hn);have h2:=zhd (λa h=>qj1 (p:=p) (x:=x) (en:=en) (a:=a) h);have HN:=zhd hn;generalize q8r p x en=L at *;have HB:=zhd b0;clear hp b0 hn hx;have cp:=kp.cell;have cx:=kx.cell;have lp:=kp.lt;have lx:=kx.lt;have hw:wrap64 (ch - 1)=ch - 1\/ch < 1:=by unfold i64 at hch;unfold wrap64;omega
 by_cases q:ch < 1
 .have h3:=zhd (HE.out.trans (if_pos (.inl q)));have b1:decide (ch < 1)=true:=decide_eq_true q;clear HE h2 q hch hw;go_wp2_with (first
   | ((go_at_call 300;refine(h5).mono ?_;rintro _ w2 ⟨A,c,rfl,hO,h4,h1⟩);have cp:=(kp.keep h1).cell;have cx:=(kx.keep h1).cell;have lp:=(kp.keep h1).lt;have lx:=(kx.keep h1).lt)
   | (go_at_call 301;refine(h8.out _ (bt HB.out h1)).mono ?_;rintro _ w3 ⟨rfl,h7⟩))
  go_returns;exact⟨q0w h3.out.symm,bt HB.out (bt h1 h7)⟩
 .have b1:decide (ch < 1)=false:=decide_eq_false q;have hw:=hw.resolve_right q;have HQ:=zhd q;by_cases h0:L.length=0
  .have h3:=zhd (HE.out.trans (if_pos (.inr h0)));have b2:((L.length:Int) == 0)=true:=by simpa using h0
   clear HE h2 hch q h0;go_wp2_with (first
    | ((go_at_call 300;refine(h5).mono ?_;rintro _ w2 ⟨A,c,rfl,hO,h4,h1⟩);have cp:=(kp.keep h1).cell;have cx:=(kx.keep h1).cell;have lp:=(kp.keep h1).lt;have lx:=(kx.keep h1).lt)
    | (go_at_call 301;refine(h8.out _ (bt HB.out h1)).mono ?_;rintro _ w3 ⟨rfl,h7⟩))
   go_returns;exact⟨q0w h3.out.symm,bt HB.out (bt h1 h7)⟩
  .have h6:=HE.out.trans (if_neg (by rintro(h | h);exact q h;exact h0 h));obtain⟨j,hj⟩:∃ j:Nat,(ch - 1) % (L.length:Int)=j:=⟨((ch - 1) % (L.length:Int)).toNat,by have:=Int.emod_nonneg (ch - 1) (show(L.length:Int)≠0 by omega);omega⟩
   have hb:j < L.length:=by have:=Int.emod_lt_of_pos (ch - 1) (show(0:Int) < L.length by omega);omega
   rw[hj,Int.toNat_natCast]at h6
   have h3:=zhd h6;have b2:((L.length:Int) == 0)=false:=by simpa using h0
   have hn0:¬ (L.length:Int)=0:=zo;have hq0:0<=ch - 1:=zo;have HI:Hid (∀ z ∈ L,i64 z):=λz hz=>by
    obtain⟨j,rfl,hj⟩:=h2.out z hz;have:=HN.out;unfold i64;omega
   clear HE hch q h0 h2 HN h6;go_upto_region 4 with ((go_at_call 300;refine(h5).mono ?_;rintro _ w2 ⟨A,c,rfl,hO,h4,h1⟩);have cp:=(kp.keep h1).cell;have cx:=(kx.keep h1).cell;have lp:=(kp.keep h1).lt;have lx:=(kx.keep h1).lt)
   obtain⟨b,f,rfl,hbl,hc⟩:=(qi2.sl hO HI.out).at_ hb;have ha:=zhd (bt HB.out h1);clear hO h4 h1;go_wp2_with fail;go_returns;exact⟨q0w h3.out.symm,ha.out⟩
end Go.Proofs.YtncfcbohiodnnaaGreat
