/- Parts of this seat's claims. -/
import Derived.Test.YtncfcbohiodnnaaGreatW36
set_option maxRecDepth 100000
set_option maxHeartbeats 6400000
namespace Go.Proofs.YtncfcbohiodnnaaGreat
open Go.RowKit
variable{w w' W wa wo W':World} {c n pt r B j b m mb q base cap id B0:Nat} {A:Option Addr} {a code what:Int} {cs:Array Value}
section
theorem qg4{P:Program} (a:Addr) (m:Mode) (f:Fn) (ts) (cs:Array Value):(store a (.func f ts cs) m).run P w=stored P w a (.func f ts cs) m:=run_store P w a _ m rfl
attribute [local go_sem] qg4
structure SyJ(d:Nat) (s:Sy):Prop where
 a:s.sheds.length<=d
 b:s.modes.length<=d
 c:s.creds.length<=d
theorem qce(cf:Cf) (p:Nat) (en:Int):∀ (n:Nat) (s:Sy),(q3e cf p en n s).sheds=s.sheds/\(q3e cf p en n s).modes=s.modes/\(q3e cf p en n s).creds=s.creds
 | 0,s=>⟨rfl,rfl,rfl⟩
 | n + 1,s=>by
  unfold q3e;split
  .exact⟨rfl,rfl,rfl⟩
  .exact qce cf p en n (q5z cf p en s)
theorem qcf(cf:Cf) (s:Sy) (p:Nat) (fr u:Int) (r:Bool):(slotZ cf s p fr u r).sheds=s.sheds/\(slotZ cf s p fr u r).modes=s.modes/\(slotZ cf s p fr u r).creds=s.creds:=by
 cases r with
 | true=>exact⟨rfl,rfl,rfl⟩
 | false =>
  unfold slotZ;simp only[Bool.false_eq_true,if_false];exact qce cf p u _ { q1w { s with g:=q2p cf.pw s.g fr } fr p with cs:=_,g:=_ }
theorem SyJ.slotZ{d:Nat} {s:Sy} (J:SyJ d s) (cf:Cf) (p:Nat) (fr u:Int) (r:Bool):SyJ d (slotZ cf s p fr u r):=by
 obtain⟨h1,h2,h3⟩:=qcf cf s p fr u r;exact⟨by rw[h1];exact J.a,by rw[h2];exact J.b,by rw[h3];exact J.c⟩
section
variable{W w0 w:World} {o0 o:Gh} {cf:Cf} {x:Yx} {s:Sy} {y:Nat}
theorem SyI.slotZ{a:Nat} (I:SyI W cf a b c s) {p:Nat} (hp:p < cf.parts.l.length) (fr u:Int) (r:Bool):SyI W cf (a + 10000) (b + 2) (c + 4096) (slotZ cf s p fr u r):=by
 unfold Go.Proofs.YtncfcbohiodnnaaGreat.slotZ;dsimp only;have I1:=(I.wait fr).bound fr p;generalize q1w { s with g:=q2p cf.pw s.g fr } fr p=s1 at *;have I2:SyI W cf (a + 10000) (b + 1) c (if r=true then s1 else q5i cf s1 p u):=by
  split
  .exact⟨I1.n,I1.sn,I1.G,I1.C,I1.cap,λq hq=>Nat.le_trans (I1.ev q hq) zo,I1.z,Nat.le_trans I1.se zo,I1.bd,I1.ms⟩
  .exact I1.work hp _
 generalize (if r=true then s1 else q5i cf s1 p u)=s2 at *;have I3:=(I2.wait u).bound u (-1);split
 .exact⟨I3.n,I3.sn,I3.G,I3.C,I3.cap,I3.ev,I3.z,I3.se,I3.bd,Nat.le_trans I3.ms zo⟩
 .exact I3.flush hp
theorem SyN.slot{a:Nat} (N:SyN W w0 o0 cf y s w o x) (I:SyI W cf a b c s) (ha:a<=99000000) (hb:b<=1000000000) (hc:c<=1000000000) (hp1:cf.parts.l.length<=1000) {p:Nat} (hp:p < cf.parts.l.length) {fr u:Int} {rests:Bool} :
  cP 66 #[pp y,.agg #[ii p,ii fr,ii u],.bool rests] w λe w'=>e = .returned (.tuple #[])/\∃ o' x',SyN W w0 o0 cf y (slotZ cf s p fr u rests) w' o' x':=by
 have h:=qt0 N.S I ha hb hc hp1 hp (fr:=fr) (u:=u) (rests:=rests);rw[N.hy]at h
 exact h.mono λ_ _ h=>⟨h.1,N.of h.2⟩
theorem SyN.mk_(S:SyR W w o cf x s) (M:Mv SyL o0 w0 o w) (hy:x.y=y):SyN W w0 o0 cf y s w o x:=⟨M,hy,S⟩
theorem SlG.go_{α : Type} {o o':Gh} {sz:Nat} {f : α->List Value} {l:List α} (h:SlG w A n c sz f l) (lb:∀ b k,A=some ⟨b,k,none⟩->o b = .data) (m:Mv SyL o w o' w'):SlG w' A n c sz f l :=
 h.fr m.f λb k _ e h'=>by rw[lb b k e]at h';exact h'.2.1 rfl
def slF(cf:Cf) (pg:Ca.Pg) (s:Sy) (z:Ca.St):Sy:=slotZ cf s z.part.toNat z.fr z.to (isR (atD Pt0 cf.parts.l z.part.toNat).lad pg.level)
theorem qu9(cf:Cf) (pg:Ca.Pg):∀ (l:List Wn) (s:Sy),(∀ z ∈ l,0<=z.part)->(l.map (Ca.slotS pg.at_)).foldl (slF cf pg) s=l.foldl (q4e cf pg) s
 | [],_,_=>rfl
 | z :: l,s,h=>by
  rw[List.map_cons,List.foldl_cons,List.foldl_cons,qu9 cf pg l _ λq hq=>h q (by simp[hq])];have h0:=h z zp;congr 1
  unfold slF q4e;rw[qj5 (p:=z.part.toNat) cf s zo];rfl
def FrQ(W w2:World) (o2:Gh) (cf:Cf) (y:Nat) (a b c d:Nat) (pg:Ca.Pg) (s:Sy) (ss:List Ca.St) (k:Nat) (wr:World):Prop :=
 ∃ o' x',SyN W w2 o2 cf y ((ss.take k).foldl (slF cf pg) s) wr o' x'/\SyI W cf (a + 10000 * k) (b + 2 * k) (c + 4096 * k) ((ss.take k).foldl (slF cf pg) s)/\SyJ d ((ss.take k).foldl (slF cf pg) s)
theorem qpg{α β : Type} (f : β->α->β) (z : α) (l:List α) {k:Nat} (h:k < l.length) (s : β):(l.take (k + 1)).foldl f s=f ((l.take k).foldl f s) (atD z l k):=by
 rw[q4l z _ _ h,List.foldl_append];rfl
theorem qph:ElemOf 60 29 1 24:=q1l (z := .slice none 0 0) zk zk rfl zd zd
theorem qwp(z:Value):Sl (w.alloc (.cells #[z] 29)) (some ⟨w.heap.size,0,none⟩) 1 1 1 [z] :=
 (Own.of_blk (Blk.new w 29 #[z]) rfl (by show 1<=maxLen;decide)).sl
theorem qua(z:Int):Sl ((w.alloc (.cells #[ii z] 3)).drew) (some ⟨w.heap.size,0,none⟩) 1 1 1 [ii z] :=
 ((Own.of_blk (Blk.new w 3 #[ii z]) rfl (by show 1<=maxLen;decide)).keep bR.drew).sl
theorem qub(w:World) (cs:Array Value) (t:TypeId):bW w ((w.alloc (.cells cs t)).drew):=((Below.refl _ w).alloc nL _).drew
theorem qpi{d:Nat} (h:n<=d) (h2:d<=1000000):n + 1<=100000000000:=zo
theorem qt7(_:m < cf.modes.l.length) {s5 s8 s9 s11 s13:Sy} {pa pe pl:Int} {f:Fm} (h5:s5=qna cf s f) (h8:(atD Md0 cf.modes.l m).wins.l.foldl (q4e cf ⟨pa,pe,m,pl⟩) s5=s8) (h9:{ s8 with g:=q2p cf.pw s8.g pe } = s9) (h11:{ s9 with sheds:=s9.sheds ++ [pl] } = s11) (h13:{ s11 with modes:=s11.modes ++ [(m:Int)] } = s13) :
  {s13 with creds:=s13.creds ++ [s13.cy.map (q9y cf)] } = q1x cf s ⟨pa,pe,m,pl⟩ f:=by
 unfold q1x;rw[<- h5];dsimp only;rw[Int.toNat_natCast,h8,<- h13,<- h11,<- h9];rfl
theorem qzf{a d k l:Nat} (h1:a<=80000000/\b<=100000000/\c<=100000000/\d<=1000000) (h2:l<=1000) (h3:n=l) (h4:k < n):a + 10000 * k<=99000000/\b + 2 * k<=1000000000/\c + 4096 * k<=1000000000:=zo
theorem qzg{k:Nat} (h:k < n):n - (intOf (ii ((k + 1:Nat):Int))).toNat < n - (intOf (ii (k:Int))).toNat:=by simp[intOf];omega
theorem z2j{k l:Nat} (h:k < n) (h2:l<=1000) (h3:n=l):wrap64 ((k:Int) + 1)=((k + 1:Nat):Int):=qhl h zo
theorem qpj{a d:Nat} (S:SyR0 W w o cf x s) (I:SyI W cf a b c s) (J:SyJ d s) {pg:Ca.Pg} {f:Fm} (hm:m < cf.modes.l.length) (hpm:pg.mode=m) (hat:i64 pg.at_) (hch:i64 f.choice)
  (hwl:(atD Md0 cf.modes.l m).wins.l.length<=1000) (hwp:∀ z ∈ (atD Md0 cf.modes.l m).wins.l,0<=z.part/\z.part < cf.parts.l.length)
  (ha:a<=80000000) (hb:b<=100000000) (hc:c<=100000000) (hd:d<=1000000) (hp1:cf.parts.l.length<=1000) :
  cP 30 #[pp x.y,.agg #[ii pg.at_,ii pg.end_,ii pg.mode,ii pg.level],.agg (Fm.lw f)] w λe w'=>e = .returned (.tuple #[])/\SyA W o w cf x (q1x cf s pg f) w':=by
 obtain⟨y,hy⟩:∃ y,x.y=y:=⟨_,rfl⟩
 rw[hy];have b8:=zhd (show ∀ (s':Sy) (w':World) (o':Gh) (x':Yx),SyN W w o cf y s' w' o' x'->s'=q1x cf s pg f->SyA W o w cf x (q1x cf s pg f) w' from λs' w' o' x' N e=>⟨o',x',N.hy.trans hy.symm,N.M,by rw[<- e];exact N.S⟩);obtain⟨pa,pe,pm,pl⟩:=pg;obtain⟨f1,f2,f3,f4⟩:=f;simp only at hpm hat hch;subst hpm;obtain⟨m1,S1⟩:=S.laid (l := .data) (w':=(w.alloc (.cells #[ii pa,ii pe,ii m,ii pl] 104)).alloc (.cells #[ii f1,ii f2,ii f3,ii f4] 78)) (by go_grown);obtain⟨o1,Hy⟩:∃ o1,o1=lay w o .data:=⟨_,rfl⟩
 rw[<- Hy]at m1 S1
 have hl:∀ k,w.heap.size<=k->o1 k = .data:=λk hk=>by rw[Hy];exact q07 hk
 have M1:Mv SyL o w o1 _:=m1.mono λ_ h=>h.elim;have k1:=S1.k;rw[hy]at k1
 have HY:=zhd hy;have b3:q1t _ o1 .data w.heap.size 104 #[ii pa,ii pe,ii m,ii pl]:=⟨(Blk.new w _ _).keep (w':=(w.alloc (.cells #[ii pa,ii pe,ii m,ii pl] 104)).alloc (.cells #[ii f1,ii f2,ii f3,ii f4] 78)) (by go_grown),hl _ nL⟩
 have H6:q1t _ o1 .data (w.heap.size + 1) 78 #[ii f1,ii f2,ii f3,ii f4]:=⟨by have:=Blk.new (w.alloc (.cells #[ii pa,ii pe,ii m,ii pl] 104)) 78 #[ii f1,ii f2,ii f3,ii f4];simpa using this,hl _ (by omega)⟩
 have bb:=zhd M1;have bh:=zhd hp1;have h5:=zhd (And.intro ha (And.intro hb (And.intro hc hd)));have af:=zhd hwl;have ag:=zhd hwp;have HI:=zhd I;have HJ:=zhd J;have HM:=zhd hm;have b6:=zhd hat;have b7:=zhd hch;clear S hy hl M1 m1 Hy hp1 ha hb hc hd hwl hwp I J hm hat hch;refine inC ?_;go_in;go_upto_region 1 with fail;generalize (w.alloc (.cells #[ii pa,ii pe,ii m,ii pl] 104)).alloc (.cells #[ii f1,ii f2,ii f3,ii f4] 78)=w1 at *;generalize w.heap.size + 1=g2 at *;generalize w.heap.size=g1 at *;obtain⟨c2,c5⟩:=H6.1.cl;have Hs:w1.cell? ⟨y,12,none⟩=some (pp x.gx.g):=k1.1.cell 12;have ly:=k1.1.lt;obtain⟨v0,d0,hv⟩:=S1.g;have lg:=hv.1.lt;have ng:¬ y=x.gx.g:=λe=>by
  have h1:=k1.2;rw[e,hv.2]at h1;cases h1
 have cc:¬ g2=x.gx.g:=λe=>by
  have h1:=H6.2;rw[e,hv.2]at h1;cases h1
 have bj:=zhd S1;have a9:=zhd b3;have aa:=zhd (λ(w':World) (hb:bW w1 w')=>(hv.1.keep hb));clear S1 k1 hv b3 H6;refine q88 (λk=>k=x.gx.g) [(10,0),(1,0),(2,0),(2,2)] ?_;simp only[q03,tkO,dpO]
 repeat(go_big_quiet_step (fail))
 refine qwW (λK' hK'=>?_);go_wp2_with fail;go_at_call 62
 refine(qho w1.drew f4).mono ?_;rintro _ w2 ⟨fb,nb,rfl,an,av,ax,am,kf,kn⟩;have B2:=bt bR.drew am;refine zGW (fO B2 _) ?_;clear hK' K';intro K' hK';go_wp2_with fail;go_at_call 63
 refine(qpb w2 ⟨f1,f2,f3,f4⟩).mono ?_;rintro _ w3 ⟨rfl,H2⟩;have B3:=bt B2 H2;refine zG (fO B3 _) ?_;clear hK' K';have H7:=aa.out w3 B3;have c3:=H7.cell;have bs:∀ i,w3.frozen? ⟨x.gx.g,i,none⟩=false:=H7.frozen;have c6:=H7.lt;refine qwW (λK' hK'=>?_);go_wp2_with fail;have ak:Fr (λk=>k=x.gx.g) w1 (w3.setCell ⟨x.gx.g,11,none⟩ (.func (.func 126) #[] #[pp fb,pp nb])):=(fO B3 (λk=>k=x.gx.g)).setCell (p:=⟨x.gx.g,11,none⟩) (λ_=>rfl) _;refine zGB ak ?_;clear hK' K';intro K' hK';go_wp2_with fail;refine zE ?_;clear hK' K';obtain⟨o4,m4,S4⟩:=bj.out.beg B3 an av ax b7.out (drift:=q8s f3) (kf.keep H2) (kn.keep H2);have N4:=SyN.mk_ S4 (m4.mono (L':=SyL) (by rintro _ rfl;exact SyL.s (by decide))) HY.out;clear S4 m4 ak c3 H7 bs c6 kf kn an av ax am B2 H2 B3 Hs ng cc lg c2 c5 ly aa;generalize (w3.setCell ⟨x.gx.g,11,none⟩ (.func (.func 126) #[] #[pp fb,pp nb])).setCell ⟨x.gx.g,12,none⟩ (ii (q8s f3))=w4 at N4 ⊢;generalize hx4:({ x with gx:={ x.gx with fb:=fb,nb:=nb } } : Yx)=x4 at N4;generalize hs4:({ s with g:={ s.g with first:=f4,n:=0,drift:=q8s f3 } } : Sy)=s4 at N4;have bk:=zhd hs4;have hj:=zhd N4;have Ht:w4.cell? ⟨y,29,none⟩=some (pp x4.lb):=N4.k.1.cell 29;have ly:=N4.k.1.lt;clear hx4 hs4 N4;go_upto_region 3 with (go_at_call 64;refine(qgq hj.out.S.L.H).mono ?_;rintro _ w5 ⟨rfl,H5,f5⟩)
 obtain⟨m5,S5⟩:=hj.out.S.led H5 f5;have N5:=SyN.mk_ S5 (hj.out.M.trans (m5.mono (L':=SyL) (by rintro _ rfl;exact SyL.s (by decide)))) hj.out.hy;generalize hs5:({ s4 with cy:=List.replicate cf.parts.l.length 0 } : Sy)=s5 at N5;have Hm:Hid (s5=qna cf s ⟨f1,f2,f3,f4⟩):=by rw[<- hs5,<- bk.out];exact rfl
 have I5:SyI W cf a b c s5:=by
  have I:=HI.out;rw[Hm.out];exact⟨I.n,I.sn,⟨I.G.now,I.G.base,I.G.done,I.G.l0,I.G.l1⟩,I.C,I.cap,I.ev,I.z,I.se,I.bd,I.ms⟩
 have J5:SyJ d s5:=by
  have J:=HJ.out;rw[Hm.out];exact⟨J.a,J.b,J.c⟩
 have b9:=zhd I5;have ba:=zhd J5;have kb:=a9.out.go N5.M (λh=>h.2.1 rfl);obtain⟨kc,lg⟩:=kb.1.cl;have aj:w5.cell? ⟨y,15,none⟩=some (.slice cf.modes.A cf.modes.l.length cf.modes.c):=N5.k.1.cell 15;have ca:=N5.k.1.lt;have a1:=qe9.keep N5.S.hc.2.2.1 N5.S.B.b;obtain⟨mb,mo,hA,bx,Hx⟩:=a1.1.at_ Md0 HM.out;have au:=a1.2 _ (q0h (d:=Md0) HM.out);have m0:w5.cell? ⟨mb,mo + m * 2,none⟩=some (ii (atD Md0 cf.modes.l m).frame):=Hx 0 _ rfl;have m1:w5.cell? ⟨mb,mo + m * 2 + 1,none⟩=some (.slice (atD Md0 cf.modes.l m).wins.A (atD Md0 cf.modes.l m).wins.l.length (atD Md0 cf.modes.l m).wins.c):=Hx 1 _ rfl;rw[hA]at aj
 have bz:=HM.out;have bf:=zhd au;have bg:=zhd N5;clear Hx a1 au N5 I5 J5 hs5 S5 m5 f5 H5 Ht ly hA kb hj;go_upto_region 4 with ((with_reducible refine qe4 [(11,0)] ?_);(try simp only[q03,tkO,dpO]);(repeat(go_big_quiet_step (fail)));refine qwW (λK' hK'=>?_);go_wp2_with fail;go_at_call 65;refine(Ca.slots_any (atD Md0 cf.modes.l m) (z09.keep bf.out bR.drew) af.out pa b6.out).mono ?_;rintro _ w6 ⟨v6,rfl,h9,Hu⟩;obtain⟨SA,sc,rfl,az,h6⟩:=SlG.of_own h9 (λ_ _=>rfl) rfl;refine zGZ (fO (bt bR.drew Hu) _) ?_;clear hK' K')
 have B6:=bt (Below.refl w5.heap.size w5).drew Hu;obtain⟨o6,N6,aq,M6⟩:=bg.out.box B6;have ad:Hid (∀ (w':World) (o':Gh) (x':Yx) (s':Sy),SyN W w6 o6 cf y s' w' o' x'->SlG w' SA (Ca.slotsS (atD Md0 cf.modes.l m) pa).length sc 3 Ca.St.f (Ca.slotsS (atD Md0 cf.modes.l m) pa)):=λw' o' x' s' N=>SlG.go_ az (λb k e=>aq b (by have:=h6 b k e;simpa using this)) N.M;have bp:Hid (∀ z ∈ Ca.slotsS (atD Md0 cf.modes.l m) pa,0<=z.part/\z.part < cf.parts.l.length):=λz hz=>by
  obtain⟨q,hq,rfl⟩:=List.mem_map.1 hz;exact ag.out q hq
 have ae:Hid ((Ca.slotsS (atD Md0 cf.modes.l m) pa).length<=1000):=by unfold Ca.slotsS;rw[List.length_map];exact af.out
 have bq:Hid (∀ s,(Ca.slotsS (atD Md0 cf.modes.l m) pa).foldl (slF cf ⟨pa,pe,m,pl⟩) s=(atD Md0 cf.modes.l m).wins.l.foldl (q4e cf ⟨pa,pe,m,pl⟩) s):=λs=>qu9 cf _ _ s λz hz=>(ag.out z hz).1;have bc:=zhd M6;have h0:=zhd (a9.out.go M6 (λh=>h.2.1 rfl));have ac:Hid (FrQ W w6 o6 cf y a b c d ⟨pa,pe,m,pl⟩ s5 (Ca.slotsS (atD Md0 cf.modes.l m) pa) 0 w6):=⟨o6,_,N6,b9.out,ba.out⟩
 clear N6 aq M6 az h6 h9 B6 Hu kc lg aj ca m0 m1 bx bz;generalize Ca.slotsS (atD Md0 cf.modes.l m) pa=ss at *;obtain⟨n,hn⟩:∃ n,n=ss.length:=⟨_,rfl⟩
 rw[<- hn]at ad ⊢
 have H1:=zhd hn;clear hn;go_loopw [43] (λi wr=>∃ k:Nat,i = .int .i64 (k:Int)/\k<=n/\FrQ W w6 o6 cf y a b c d ⟨pa,pe,m,pl⟩ s5 ss k wr) (λi _=>n - (intOf i).toNat)
 case atStart=>exact⟨0,rfl,Nat.zero_le _,ac.out⟩
 case round =>
  clear ac;obtain⟨k,rfl,ap,o7,x7,N7,I7,J7⟩:=hrel;by_cases hk:k < n
  .have Hv:k < ss.length:=by rw[<- H1.out];exact hk
   have h7:=qpg (slF cf ⟨pa,pe,m,pl⟩) Ca.St0 ss Hv s5;have ht:=q0h (d:=Ca.St0) Hv;obtain⟨a2,a3⟩:=bp.out _ ht;obtain⟨sb,so,rfl,c1,H4⟩:=(ad.out _ _ _ _ N7).at_ Ca.St0 hk;have s0:wr.cell? ⟨sb,so + k * 3,none⟩=some (ii (atD Ca.St0 ss k).part):=H4 0 _ rfl;have s1:wr.cell? ⟨sb,so + k * 3 + 1,none⟩=some (ii (atD Ca.St0 ss k).fr):=H4 1 _ rfl;have s2:wr.cell? ⟨sb,so + k * 3 + 2,none⟩=some (ii (atD Ca.St0 ss k).to):=H4 2 _ rfl;clear H4 ht;generalize atD Ca.St0 ss k=z at *;generalize (ss.take k).foldl (slF cf ⟨pa,pe,m,pl⟩) s5=s7 at *;obtain⟨zp,zf,zt⟩:=z;simp only at a2 a3 s0 s1 s2;obtain⟨p,rfl⟩:=Int.eq_ofNat_of_zero_le a2;have hp:p < cf.parts.l.length:=Int.ofNat_lt.1 a3;have Hh:=zhd N7;have a8:=zhd I7;have hg:=zhd J7;have HF:=zhd h7;have ab:=zhd hp;have HK:=zhd hk;clear N7 I7 J7 h7 hp a2 a3 Hv;go_upto_region 6 with fail;obtain⟨o8,N8,ar,M8⟩:=Hh.out.box (w':=wr.alloc (.cells #[ii (p:Int),ii zf,ii zt] 175)) (by go_grown);have a4:q1t (wr.alloc (.cells #[ii (p:Int),ii zf,ii zt] 175)) o8 .data wr.heap.size 175 #[ii (p:Int),ii zf,ii zt]:=⟨Blk.new _ _ _,ar _ nL⟩
   have kb:=h0.out.go M8 (λh=>h.2.1 rfl);clear ar s0 s1 s2 c1;generalize wr.alloc (.cells #[ii (p:Int),ii zf,ii zt] 175)=w8 at *;generalize wr.heap.size=g8 at *;obtain⟨c4,c7⟩:=a4.1.cl;obtain⟨kc,lg⟩:=kb.1.cl;have ah:w8.cell? ⟨y,13,none⟩=some (.slice cf.parts.A cf.parts.l.length cf.parts.c):=N8.k.1.cell 13;have cb:=N8.k.1.lt;have Hz:=ab.out;have b2:=q53.keep N8.S.hc.1 N8.S.B.b;obtain⟨pb,po,hA,c0,ay⟩:=b2.1.at_ Pt0 Hz;have p9:w8.cell? ⟨pb,po + p * 11 + 9,none⟩=some (ii (atD Pt0 cf.parts.l p).lad):=ay 9 _ rfl;rw[hA]at ah
   have b1:decide (cf.parts.l.length<=p)=false:=decide_eq_false (Nat.not_le.2 Hz);have H3:=qzf h5.out ae.out H1.out HK.out;have Hn:=zhd (λ(w':World) (hb:bW w8 w')=>(N8.blw hb).slot a8.out H3.1 H3.2.1 H3.2.2 bh.out Hz (fr:=zf) (u:=zt) (rests:=isR (atD Pt0 cf.parts.l p).lad pl));have be:=zhd M8;clear hA ay b2 H3 N8 M8 kb a4;go_upto_region 7 with ((with_reducible refine qe4 [(14,0),(0,2)] ?_);(try simp only[q03,tkO,dpO]);(repeat(go_big_quiet_step (fail)));refine qwW (λK' hK'=>?_);go_wp2_with fail;go_at_call 67;refine(qwj _ _ _).mono ?_;rintro _ w9 ⟨rfl,rfl⟩;refine zGB (fO bR.drew _) ?_;clear hK' K';intro K' hK';go_wp2_with fail;go_at_call 66;refine(Hn.out _ bR.drew).mono ?_;rintro _ w9 ⟨rfl,o9,x9,N9⟩;refine zE ?_;clear hK' K')
   have hr:=zhd N9;clear N9 c4 c7 kc lg ah cb p9 c0;go_wp2_with fail;have b0:wrap64 ((k:Int) + 1)=((k + 1:Nat):Int):=z2j HK.out ae.out H1.out;have a0:slF cf ⟨pa,pe,m,pl⟩ s7 ⟨p,zf,zt⟩=slotZ cf s7 p zf zt (isR (atD Pt0 cf.parts.l p).lad pl):=rfl;refine⟨⟨k + 1,by first | rfl | rw[b0],HK.out,o9,x9,?_,?_,?_⟩,by first | exact qzg HK.out | (rw[b0];exact qzg HK.out)⟩
   .rw[HF.out,a0];exact⟨be.out.trans hr.out.M,hr.out.hy,hr.out.S⟩
   .rw[HF.out,a0];have h:=a8.out.slotZ ab.out zf zt (isR (atD Pt0 cf.parts.l p).lad pl);exact h
   .rw[HF.out,a0];exact hg.out.slotZ _ _ _ _ _
  .obtain rfl:k=n:=Nat.le_antisymm ap (Nat.le_of_not_lt hk);rw[show ss.take k=ss from by rw[H1.out];exact List.take_length,bq.out]at N7 I7 J7
   generalize hs8:(atD Md0 cf.modes.l m).wins.l.foldl (q4e cf ⟨pa,pe,m,pl⟩) s5=s8 at N7 I7 J7;have bm:=zhd hs8;have kb:=h0.out.go N7.M (λh=>h.2.1 rfl);obtain⟨kc,lg⟩:=kb.1.cl;have Hs:wr.cell? ⟨y,12,none⟩=some (pp x7.gx.g):=N7.k.1.cell 12;have ly:=N7.k.1.lt;have Hh:=zhd N7;have hg:=zhd J7;clear N7 J7 hs8 kb hk ap I7;go_upto_region 9 with (refine zD 6 λK' hK'=>?_;go_wp2_with fail;go_at_call 68;refine(Hh.out.dr.wait).mono ?_;rintro _ w9 ⟨rfl,N⟩;refine zE ?_;clear hK' K')
   clear kc lg Hs ly;have kb:=h0.out.go N.M (λh=>h.2.1 rfl);obtain⟨kc,lg⟩:=kb.1.cl;generalize hs9:({ s8 with g:=q2p cf.pw s8.g pe } : Sy)=s9 at N;have Hf:Hid (SyJ d s9):=by rw[<- hs9];exact⟨hg.out.a,hg.out.b,hg.out.c⟩
   have bn:=zhd hs9;have c8:w9.cell? ⟨y,8,none⟩=some (.slice x7.hA s9.sheds.length x7.hc):=N.k.1.cell 8;have ly:=N.k.1.lt;have h8:¬ q02 x7.hA y:=λh=>N.S.sh.1.ne N.k.1 (by decide) h;have hu:¬ q02 x7.hA g1:=λh=>by
    have h1:=N.S.sh.2 g1 h;rw[kb.2]at h1;cases h1
   have hr:=zhd N;have HKB9:=zhd kb;clear N kb hs9;as_aux_lemma =>
    refine q88 (q02 x7.hA) [(8,0),(0,0),(3,2)] ?_;simp only[q03,tkO,dpO]
    repeat(go_big_quiet_step (fail))
    refine qwW (λK' hK'=>?_);go_wp2_with fail;have H8:=qub w9 #[ii pl] 3;refine zG (fO H8 _) ?_;clear hK' K';have h2:=zhd (hr.out.blw H8);have Ha:Hid (s9.sheds.length + 1<=100000000000):=qpi Hf.out.a h5.out.2.2.2;refine qwW (λK' hK'=>?_);refine qas q27 _ _ _ (by rfl) (by rfl) h2.out.S.sh.1 (by rfl) (qua pl) (by simp[Value.oneCell']) Ha.out ?_;intro A10 k10 v10 own10 hf10 hat10;refine hK' _ _ rfl (q01 ((fO H8 _).trans hf10)) ?_;clear hK' K';have ky:=h2.out.k.1.fr hf10 h8;have cy:v10.cell? ⟨y,8,none⟩=some (.slice x7.hA s9.sheds.length x7.hc):=ky.cell 8;have fy:=ky.frozen;have hx:=ky.lt;refine zN ?_;refine qwB (λK' hK'=>?_);go_wp2_with fail;refine zE ?_;clear hK' K';obtain⟨p10,a5,Hp⟩:=h2.out.S.push_sh (ys:=[pl]) own10 hf10 hat10;rw[h2.out.hy]at a5 Hp
    have N:=SyN.mk_ Hp (h2.out.M.trans (a5.mono (L':=SyL) (by rintro _ (rfl | rfl) <;> exact SyL.s (by decide)))) rfl;clear own10 hf10 hat10 ky cy fy hx a5 Hp h8 hu ly kc lg c8;simp only[List.length_cons,List.length_nil,Nat.zero_add]at N ⊢;generalize v10.setCell ⟨y,8,none⟩ (.slice A10 (s9.sheds.length + 1) k10)=w11 at N ⊢;generalize hs11:({ s9 with sheds:=s9.sheds ++ [pl] } : Sy)=s11 at N;generalize hx11:({ x7 with y:=y,hA:=A10,hc:=k10 } : Yx)=x11 at N;have Hj:=zhd hs11;have kb:=h0.out.go N.M (λh=>h.2.1 rfl);obtain⟨kc,lg⟩:=kb.1.cl;have hf:Hid (s11.modes.length<=d/\s11.creds.length<=d):=by rw[<- hs11];exact⟨Hf.out.b,Hf.out.c⟩
    have Hg:=zhd N;go_upto_region 10 with fail;as_aux_lemma =>
     have c9:w11.cell? ⟨y,9,none⟩=some (.slice x11.dA s11.modes.length x11.dc):=N.k.1.cell 9;have ly:=N.k.1.lt;have h8:¬ q02 x11.dA y:=λh=>N.S.mo.1.ne N.k.1 (by decide) h;have hu:¬ q02 x11.dA g1:=λh=>by
      have h1:=N.S.mo.2 g1 h;rw[kb.2]at h1;cases h1
     clear N kb hs11 hx11;refine q88 (q02 x11.dA) [(8,0),(0,0),(3,2)] ?_;simp only[q03,tkO,dpO]
     repeat(go_big_quiet_step (fail))
     refine qwW (λK' hK'=>?_);go_wp2_with fail;have H9:=qub w11 #[ii (m:Int)] 3;refine zG (fO H9 _) ?_;clear hK' K';have h3:=zhd (Hg.out.blw H9);have Hb:Hid (s11.modes.length + 1<=100000000000):=qpi hf.out.1 h5.out.2.2.2;refine qwW (λK' hK'=>?_);refine qas q27 _ _ _ (by rfl) (by rfl) h3.out.S.mo.1 (by rfl) (qua (m:Int)) (by simp[Value.oneCell']) Hb.out ?_;intro A12 k12 v12 own12 hf12 hat12;refine hK' _ _ rfl (q01 ((fO H9 _).trans hf12)) ?_;clear hK' K';have ky:=h3.out.k.1.fr hf12 h8;have cy:v12.cell? ⟨y,9,none⟩=some (.slice x11.dA s11.modes.length x11.dc):=ky.cell 9;have fy:=ky.frozen;have hx:=ky.lt;refine zN ?_;refine qwB (λK' hK'=>?_);go_wp2_with fail;refine zE ?_;clear hK' K';obtain⟨p12,a6,Hq⟩:=h3.out.S.push_mo (ys:=[(m:Int)]) own12 hf12 hat12;rw[h3.out.hy]at a6 Hq
     have N:=SyN.mk_ Hq (h3.out.M.trans (a6.mono (L':=SyL) (by rintro _ (rfl | rfl) <;> exact SyL.s (by decide)))) rfl;clear own12 hf12 hat12 ky cy fy hx a6 Hq h8 hu ly kc lg c9;simp only[List.length_cons,List.length_nil,Nat.zero_add]at N ⊢;generalize v12.setCell ⟨y,9,none⟩ (.slice A12 (s11.modes.length + 1) k12)=w13 at N ⊢;generalize hs13:({ s11 with modes:=s11.modes ++ [(m:Int)] } : Sy)=s13 at N;generalize hx13:({ x11 with y:=y,dA:=A12,dc:=k12 } : Yx)=x13 at N;have Hk:=zhd hs13;have kb:=h0.out.go N.M (λh=>h.2.1 rfl);obtain⟨kc,lg⟩:=kb.1.cl;have He:Hid (s13.creds.length<=d):=by rw[<- hs13];exact hf.out.2
     have hh:=zhd N;go_upto_region 11 with fail;as_aux_lemma =>
      have br:w13.cell? ⟨y,10,none⟩=some (.slice x13.rA x13.rv.length x13.rc):=N.k.1.cell 10;have ly:=N.k.1.lt;have h8:¬ q02 x13.rA y:=λh=>N.S.cr.1.ne N.k.1 (by decide) h;have hu:¬ q02 x13.rA g1:=λh=>by
       have h1:=N.S.cr.2 g1 h;rw[kb.2]at h1;cases h1
      have Ht:w13.cell? ⟨y,29,none⟩=some (pp x13.lb):=N.k.1.cell 29;have b5:=zhd (λ(w':World) (hb:bW w13 w')=>qsv (N.S.blw hb).L.H N.S.hc.2.2.2.1 (N.S.blw hb).B.b);clear N kb hs13 hx13 kc lg;refine q88 (q02 x13.rA) [(10,0),(0,0),(0,0),(3,2)] ?_;simp only[q03,tkO,dpO]
      repeat(go_big_quiet_step (fail))
      refine qwW (λK' hK'=>?_);go_wp2_with fail;go_at_call 69
      refine(b5.out _ bR.drew).mono ?_;rintro _ b4 ⟨OA,oc,rfl,hO,bu,hs⟩;have he:=bt (Below.refl w13.heap.size w13).drew hs;refine zGW (fO he _) ?_;clear hK' K';intro K' hK';go_wp2_with fail;have H0:=zA b4 (.cells #[.slice OA s13.cy.length oc] 29);refine zG (fO (bt he H0) _) ?_;clear hK' K';have h4:=zhd (hh.out.blw (bt he H0));have Hc:Hid (x13.rv.length + 1<=100000000000):=qpi (by rw[hh.out.S.cv.2];exact He.out) h5.out.2.2.2;refine qwW (λK' hK'=>?_);refine qas qph _ _ _ (by rfl) (by rfl) h4.out.S.cr.1 (by rfl) (qwp _) (by simp[Value.oneCell']) Hc.out ?_;intro A15 k15 v15 own15 hf15 hat15;refine hK' _ _ rfl (q01 ((fO (bt he H0) _).trans hf15)) ?_;clear hK' K';have ky:=h4.out.k.1.fr hf15 h8;have cy:v15.cell? ⟨y,10,none⟩=some (.slice x13.rA x13.rv.length x13.rc):=ky.cell 10;have fy:=ky.frozen;have hx:=ky.lt;refine zN ?_;refine qwB (λK' hK'=>?_);go_wp2_with fail;refine zE ?_;clear hK' K';obtain⟨cd,a7,Hr⟩:=h4.out.S.push_cr (ys:=[.slice OA s13.cy.length oc]) own15 hf15 hat15 (by simp[Value.oneCell']) (z:=s13.creds ++ [s13.cy.map (q9y cf)]) (by rw[List.length_append];rfl);rw[h4.out.hy]at a7 Hr
      have N:=SyN.mk_ Hr (h4.out.M.trans (a7.mono (L':=SyL) (by rintro _ (rfl | rfl) <;> exact SyL.s (by decide)))) rfl;clear own15 hf15 hat15 ky cy fy hx a7 Hr h8 hu ly br Ht he hO bu hs H0;simp only[List.length_cons,List.length_nil,Nat.zero_add]at N ⊢;have HN:=zhd N;clear N;go_wp2_with fail;go_returns;have N:=HN.out;refine⟨rfl,b8.out _ _ cd _ ⟨bb.out.trans (bc.out.trans N.M),N.hy,N.S⟩ ?_⟩;exact qt7 HM.out Hm.out bm.out bn.out Hj.out Hk.out
end
end
structure CfG(cf:Cf):Prop where
 p1:1<=cf.parts.l.length/\cf.parts.l.length<=8
 pt:∀ k,k < cf.parts.l.length->qgp (atD Pt0 cf.parts.l k)=true
 pw:qgm cf.pw=true
 ch:qbh cf=true
 m1:1<=cf.modes.l.length/\cf.modes.l.length<=4
 md:∀ k,k < cf.modes.l.length->qjh cf (atD Md0 cf.modes.l k)=true
 sh:qu0 cf.shed=true
theorem qds{cf:Cf} (h:qrl cf=true):CfG cf:=by
 unfold qrl at h;simp only[Bool.and_eq_true,q2q]at h;obtain⟨⟨⟨⟨⟨h1,h2⟩,h3⟩,h4⟩,h5⟩,h6⟩:=h;have h0:=h5;unfold qbi at h0;simp only[Bool.and_eq_true,q2q]at h0;exact⟨zo,λk hk=>q7d.1 h2 k hk,h3,h4,zo,λk hk=>q7d.1 h0.2 k hk,h6⟩
structure PtG(x:Pt):Prop where
 rg:qmc x.regs.l=true
 pn:1<=x.procs.l.length/\x.procs.l.length<=8
 pc:∀ y ∈ x.procs.l,qx3 y=true
 po:x.ports.l.length<=8/\∀ y ∈ x.ports.l,quu y=true
 ob:qx5 x=true
 cap:1<=x.cap/\x.cap<=1000000000
 bud:0<=x.bud/\x.bud<=1125899906842624
 lad:0<=x.lad/\x.lad<=4
 ac:x.acts.l.length=5/\∀ n ∈ x.acts.l,0<=n/\n<=4
theorem q83{α : Type} {l:List α} {n:Int} {d : α} {q : α->Bool} (h:qpz l n d q=true):(l.length:Int)<=n/\∀ y ∈ l,q y=true:=by
 unfold qpz at h;simp only[Bool.and_eq_true,decide_eq_true_eq]at h;exact⟨h.1,qdr (p:=λx _=>q x) (q:=λx=>q x=true) (λ_ _ h=>h) h.2⟩
theorem qpk{x:Pt} (h:qgp x=true):PtG x:=by
 unfold qgp at h;simp only[Bool.and_eq_true,q2q,decide_eq_true_eq]at h;obtain⟨⟨⟨⟨⟨⟨⟨⟨⟨h1,h2⟩,h3⟩,h4⟩,h5⟩,h6⟩,h7⟩,h8⟩,h9⟩,ha⟩:=h;have a3:=q83 h3;have a4:=q83 h4;have h0:=q83 ha;exact⟨h1,zo,a3.2,⟨zo,a4.2⟩,h5,h6,h7,h8,h9,λn hn=>by have:=h0.2 n hn;simpa [q2q] using this⟩
theorem qpl{x:Pt} (h:qgp x=true):(∀ c ∈ x.pools.l,c.depth<=1000/\szI c.size)/\(∀ c ∈ x.ports.l,c.depth<=256/\szI c.size)/\∀ n ∈ x.slates.l,szI n:=by
 have G:=qpk h;have ho:=G.ob;unfold qx5 at ho;simp only[Bool.and_eq_true,q2q]at ho;refine⟨λc hc=>?_,λc hc=>?_,λn hn=>?_⟩
 .have:=(q83 ho.1.2).2 c hc;unfold qx4 at this;simp only[Bool.and_eq_true,q2q]at this;unfold szI;omega
 .have:=G.po.2 c hc;unfold quu at this;split at this
  .simp only[Bool.and_eq_true,q2q]at this;unfold szI;omega
  .simp only[Bool.and_eq_true,q2q,beq_iff_eq]at this;unfold szI;omega
 .have:=(q83 ho.2).2 n hn;rw[q2q]at this
  unfold szI;omega
theorem qzh{cf:Cf} {sc:Sc} (h:q2d cf sc=true):MadeH cf sc:=by
 unfold q2d qxe at h;simp only[Bool.and_eq_true]at h;have G:=qds h.1;have P:=z1x G.pw;have h0:=G.pw;unfold qgm at h0;simp only[Bool.and_eq_true,q2q,decide_eq_true_eq]at h0;have h4:∀ y ∈ cf.parts.l,qgp y=true:=λy hy=>by
  obtain⟨j,hj,rfl⟩:=List.getElem_of_mem hy;have:=G.pt j hj;rwa [q0s hj]at this
 refine⟨by have:=G.p1;omega,G.p1.2,λy hy c hc=>((qpl (h4 y hy)).1 c hc).1,λy hy c hc=>by have:=((qpl (h4 y hy)).2.1 c hc).1;omega,λk p hp=>?_,zo,zo⟩;have hl:(sc.progs.l.any λh=>h.l.any q40)=false:=by have:=h.2.2;simpa using this
 unfold q2c at hp;by_cases q:k < sc.progs.l.length
 .rw[List.any_eq_false]at hl
  have h1:=hl _ (q9v Pr0 q);have h2:((atD Pr0 sc.progs.l k).l.any q40)=false:=by simpa using h1
  rw[List.any_eq_false]at h2
  have h3:=h2 p hp;unfold q40 at h3;simp at h3;omega
 .rw[qby zo]at hp
  exact absurd hp List.not_mem_nil
theorem qt8(l:List Pc):(qd1 l).length=min 8 l.length:=by unfold qd1;rw[List.length_map,List.length_take]
theorem qzi{x:Pt} (hx:qcu.ok W x) (h:qgp x=true) (k:Int) (pr:List (List St)):CeI W (q8b x k pr)/\(q8b x k pr).cf=x/\(q8b x k pr).evs = []:=by
 have G:=qpk h;obtain⟨d1,d2,d3⟩:=qpl h;have hn:=qt8 x.procs.l;obtain⟨e1,e2,e3⟩:=qp1 x k pr;refine⟨?_,e1,e3⟩;have E:=q6g (f:=λs k=>q0m s k 0) (λs k=>q4t s k 0) (qab x k pr) (qd1 x.procs.l).length;refine CeI.ext (s:=qab x k pr) ?_ E;refine⟨⟨hx,λc hc=>(d1 c hc).1,?_,?_⟩,?_,by have:=G.pn;show 0 < x.procs.l.length;omega,by have:=G.pn;show x.procs.l.length<=1000;omega,?_,⟨λi=>?_,λi=>?_,λi=>?_,λc hc=>(d1 c hc).2,d3⟩⟩
 .show((List.range (qd1 x.procs.l).length).map (q90 pr)).length<=8;rw[List.length_map,List.length_range,hn];omega
 .show(qgy x.ports.l).length<=1000;unfold qgy;rw[List.length_map,List.length_take];omega
 .show(qd1 x.procs.l).length=((List.range (qd1 x.procs.l).length).map (q90 pr)).length;rw[List.length_map,List.length_range]
 .show((List.range (qd1 x.procs.l).length).map (q90 pr)).length<=x.procs.l.length;rw[List.length_map,List.length_range,hn];omega
 .refine qai (P:=psI) z2h (λy hy=>?_) i;obtain⟨c,hc,rfl⟩:=List.mem_map.1 hy;have:=d2 c (List.mem_of_mem_take hc);exact qio ⟨this.2,this.1⟩
 .refine qai (P:=λy:Pq=>szI y.c.size) ⟨zd,zd⟩ (λy hy=>?_) i;obtain⟨z,hz,rfl⟩:=List.mem_map.1 hy;exact(d1 z (List.mem_of_mem_take hz)).2
 .refine qai (P:=λy:Sa=>szI y.size) ⟨zd,zd⟩ (λy hy=>?_) i;obtain⟨z,hz,rfl⟩:=List.mem_map.1 hy;exact d3 z (List.mem_of_mem_take hz)
theorem q5c{cf:Cf} {sc:Sc} {p:Nat} (hp:p < cf.parts.l.length):atD Ce0 ((List.range cf.parts.l.length).map (q33 cf sc)) p=q33 cf sc p:=by
 rw[q0s (by simpa using hp),List.getElem_map,List.getElem_range]
theorem qzj{cf:Cf} {sc:Sc} (hx:q1k.ok W cf) (G:CfG cf) (hcap:∀ p,p < cf.parts.l.length->(atD Pt0 cf.parts.l p).cap<=400):SyI W cf 0 0 0 (q3i cf sc):=by
 have hc:=λp (hp:p < cf.parts.l.length)=>qzi (hx.1.2 _ (q0h (d:=Pt0) hp)) (G.pt p hp) p (prL (q2c sc p));have P:=(z1x G.pw).ln;have hw:wrap64 ((cf.pw.levels.l.length:Int) - 1)=(cf.pw.levels.l.length:Int) - 1:=w64 (by unfold i64;omega);refine⟨by simp[q3i],by simp[q3i],⟨by show i64 (0:Int);unfold i64;omega,by show i64 (0:Int);unfold i64;omega,by show i64 (0:Int);unfold i64;omega,?_,?_⟩,λp hp=>?_,λp hp=>?_,λp hp=>?_,λp hp=>?_,by simp[q3i],by simp[q3i],by simp[q3i]⟩
 .show 0<=wrap64 _;rw[hw];omega
 .show wrap64 _ < _;rw[hw];omega
 .show CeI W (atD Ce0 ((List.range cf.parts.l.length).map (q33 cf sc)) p);rw[q5c hp];exact(hc p hp).1
 .show(atD Ce0 ((List.range cf.parts.l.length).map (q33 cf sc)) p).cf.cap<=400;rw[q5c hp,show(q33 cf sc p).cf=_ from(hc p hp).2.1];exact hcap p hp
 .show(atD Ce0 ((List.range cf.parts.l.length).map (q33 cf sc)) p).evs.length<=0;rw[q5c hp,show(q33 cf sc p).evs=_ from(hc p hp).2.2];simp
 .show(List.replicate cf.parts.l.length 0).getD p 0=(atD Ce0 ((List.range cf.parts.l.length).map (q33 cf sc)) p).evs.length;rw[q5c hp,show(q33 cf sc p).evs=_ from(hc p hp).2.2];simp[List.getD,hp]
theorem qwq{cf:Cf} {sc:Sc} (_hx:q1k.ok W cf) (_G:CfG cf):EvI cf (q3i cf sc):=by
 have hc:=λp (hp:p < cf.parts.l.length)=>qp1 (atD Pt0 cf.parts.l p) p (prL (q2c sc p));refine⟨by simp[q3i],by simp[q3i],λp hp=>?_,λp hp=>?_,λp hp=>?_,λe he=>absurd he List.not_mem_nil⟩
 .show(atD Ce0 ((List.range cf.parts.l.length).map (q33 cf sc)) p).cf=_/\(atD Ce0 ((List.range cf.parts.l.length).map (q33 cf sc)) p).part=_/\q3g _ _ (atD Ce0 ((List.range cf.parts.l.length).map (q33 cf sc)) p).evs;rw[q5c hp,show(q33 cf sc p).cf=_ from(hc p hp).1,show(q33 cf sc p).part=_ from(hc p hp).2.1,show(q33 cf sc p).evs=_ from(hc p hp).2.2];exact⟨rfl,rfl,trivial⟩
 .show _=(atD Ce0 ((List.range cf.parts.l.length).map (q33 cf sc)) p).evs;rw[q5c hp,show(q33 cf sc p).evs=_ from(hc p hp).2.2];rfl
 .show(List.replicate cf.parts.l.length 0).getD p 0=(atD Ce0 ((List.range cf.parts.l.length).map (q33 cf sc)) p).evs.length;rw[q5c hp,show(q33 cf sc p).evs=_ from(hc p hp).2.2];simp[List.getD,hp]
theorem qb0{cf:Cf} (G:CfG cf) {m:Nat} (hm:m < cf.modes.l.length):1<=(atD Md0 cf.modes.l m).frame/\(atD Md0 cf.modes.l m).frame<=1000000000/\(atD Md0 cf.modes.l m).wins.l.length<=16/\∀ z ∈ (atD Md0 cf.modes.l m).wins.l,0<=z.part/\z.part < cf.parts.l.length:=by
 have h:=G.md m hm;unfold qjh at h;simp only[Bool.and_eq_true,q2q,decide_eq_true_eq]at h;exact⟨h.1.1.1.1,h.1.1.1.2,h.1.1.2,q9x (by have:=G.p1;omega) h.1.2⟩
section
variable{W:World} {cf:Cf} {a b c d:Nat} {s:Sy}
theorem SyI.slots{p:Ca.Pg} : ∀ (l:List Wn) {a b c:Nat} {s:Sy},SyI W cf a b c s->(∀ x ∈ l,0<=x.part/\x.part < cf.parts.l.length)->SyI W cf (a + 10000 * l.length) (b + 2 * l.length) (c + 4096 * l.length) (l.foldl (q4e cf p) s)
 | [],_,_,_,_,I,_=>I
 | x :: l,a,b,c,s,I,h=>by
  obtain⟨k,hk⟩:=Int.eq_ofNat_of_zero_le (h x zp).1;have h1:=(h x zp).2;have:=SyI.slots (p:=p) l (I.slot (x:=x) hk zo p.at_ (isR (atD Pt0 cf.parts.l x.part.toNat).lad p.level)) (λy hy=>h y (by simp[hy]));rw[List.length_cons,show a + 10000 * (l.length + 1)=a + 10000 + 10000 * l.length by omega,show b + 2 * (l.length + 1)=b + 2 + 2 * l.length by omega,show c + 4096 * (l.length + 1)=c + 4096 + 4096 * l.length by omega];exact this
theorem SyI.le{a' b' c':Nat} (I:SyI W cf a b c s) (h1:a<=a') (h2:b<=b') (h3:c<=c'):SyI W cf a' b' c' s :=
 ⟨I.n,I.sn,I.G,I.C,I.cap,λq hq=>Nat.le_trans (I.ev q hq) h1,I.z,Nat.le_trans I.se h1,Nat.le_trans I.bd h2,Nat.le_trans I.ms h3⟩
theorem SyI.frame(G:CfG cf) (I:SyI W cf a b c s) {p:Ca.Pg} {f:Fm} {m:Nat} (hm:m < cf.modes.l.length) (hp:p.mode=m):SyI W cf (a + 160000) (b + 32) (c + 65536) (q1x cf s p f):=by
 obtain⟨-,-,h3,h4⟩:=qb0 G hm;have I1:SyI W cf a b c (qna cf s f):=⟨I.n,I.sn,⟨I.G.now,I.G.base,I.G.done,I.G.l0,I.G.l1⟩,I.C,I.cap,I.ev,I.z,I.se,I.bd,I.ms⟩
 have I2:=SyI.slots (p:=p) (atD Md0 cf.modes.l m).wins.l I1 h4;unfold q1x;rw[hp,Int.toNat_natCast];generalize (atD Md0 cf.modes.l m).wins.l.foldl (q4e cf p) (qna cf s f)=s2 at *;have I3:=(I2.wait p.end_).le (a':=a + 160000) (b':=b + 32) (c':=c + 65536) zo zo zo;exact⟨I3.n,I3.sn,I3.G,I3.C,I3.cap,I3.ev,I3.z,I3.se,I3.bd,I3.ms⟩
theorem qcg{p:Ca.Pg} : ∀ (l:List Wn) (s:Sy),(∀ x ∈ l,0<=x.part)->(l.foldl (q4e cf p) s).sheds=s.sheds/\(l.foldl (q4e cf p) s).modes=s.modes/\(l.foldl (q4e cf p) s).creds=s.creds
 | [],_,_=>⟨rfl,rfl,rfl⟩
 | x :: l,s,h=>by
  obtain⟨h1,h2,h3⟩:=qcg (p:=p) l (q4e cf p s x) λy hy=>h y (by simp[hy]);have e:q4e cf p s x=slotZ cf s x.part.toNat (wrap64 (p.at_ + x.start)) (wrap64 (wrap64 (p.at_ + x.start) + x.len)) (isR (atD Pt0 cf.parts.l x.part.toNat).lad p.level):=by
   unfold q4e;have:=h x zp;rw[qj5 (p:=x.part.toNat) cf s zo]
  obtain⟨r1,r2,r3⟩:=qcf cf s x.part.toNat (wrap64 (p.at_ + x.start)) (wrap64 (wrap64 (p.at_ + x.start) + x.len)) (isR (atD Pt0 cf.parts.l x.part.toNat).lad p.level);rw[<- e]at r1 r2 r3
  exact⟨h1.trans r1,h2.trans r2,h3.trans r3⟩
theorem SyJ.frame(G:CfG cf) (J:SyJ d s) {p:Ca.Pg} {f:Fm} {m:Nat} (hm:m < cf.modes.l.length) (hp:p.mode=m):SyJ (d + 1) (q1x cf s p f):=by
 obtain⟨-,-,-,h4⟩:=qb0 G hm;obtain⟨r1,r2,r3⟩:=qcg (cf:=cf) (p:=p) (atD Md0 cf.modes.l m).wins.l (qna cf s f) λx hx=>(h4 x hx).1;have e:(q1x cf s p f).sheds=((atD Md0 cf.modes.l m).wins.l.foldl (q4e cf p) (qna cf s f)).sheds ++ [p.level]/\(q1x cf s p f).modes=((atD Md0 cf.modes.l m).wins.l.foldl (q4e cf p) (qna cf s f)).modes ++ [p.mode]/\∃ u,(q1x cf s p f).creds=((atD Md0 cf.modes.l m).wins.l.foldl (q4e cf p) (qna cf s f)).creds ++ [u]:=by
  unfold q1x;rw[hp,Int.toNat_natCast];refine⟨rfl,?_,_,rfl⟩;rw[<- hp];rfl
 obtain⟨e1,e2,u,e3⟩:=e;refine⟨?_,?_,?_⟩
 .rw[e1,r1,List.length_append,List.length_singleton];exact Nat.succ_le_succ J.a
 .rw[e2,r2,List.length_append,List.length_singleton];exact Nat.succ_le_succ J.b
 .rw[e3,r3,List.length_append,List.length_singleton];exact Nat.succ_le_succ J.c
end
structure PgG(cf:Cf) (e:Int) (q:Ca.Pg):Prop where
 a:q.at_=e
 m0:0<=q.mode
 m1:q.mode < cf.modes.l.length
 z:q.end_=q.at_ + (atD Md0 cf.modes.l q.mode.toNat).frame
 e0:0<=q.at_
 e1:q.at_ + 1000000000<=1152921504606846976
theorem qpm{cf:Cf} (G:CfG cf) {p:Ca.Pg} (f:Fm) (hm:0<=p.mode/\p.mode < cf.modes.l.length) (he:0<=p.end_) (hc:p.end_ + 1000000000<=1152921504606846976) :
  ∃ q,Ca.stepS cf p f=some q/\PgG cf p.end_ q/\q.end_<=p.end_ + 1000000000/\0<=q.end_:=by
 have ht:0<=Ca.turnS cf.modes.l.length p.mode f.mode/\Ca.turnS cf.modes.l.length p.mode f.mode < cf.modes.l.length:=by
  unfold Ca.turnS;split
  .assumption
  .exact hm
 unfold Ca.stepS;simp only;generalize Ca.turnS cf.modes.l.length p.mode f.mode=m at ht ⊢;obtain⟨g1,g2,-,-⟩:=qb0 G (m:=m.toNat) zo;rw[if_neg zo,if_neg zo];refine⟨_,rfl,⟨rfl,ht.1,ht.2,rfl,he,hc⟩,?_,?_⟩ <;> simp only <;> omega
theorem q84{cf:Cf} (G:CfG cf):∀ (l:List Fm) (p:Ca.Pg),0<=p.mode/\p.mode < cf.modes.l.length->0<=p.end_->p.end_ + l.length * 1000000000<=1152921504606846976 ->
  (Ca.pagesS cf p l).length=l.length/\∀ q ∈ Ca.pagesS cf p l,∃ e,PgG cf e q
 | [],_,_,_,_=>⟨rfl,λq hq=>absurd hq List.not_mem_nil⟩
 | f :: fs,p,hm,he,hc=>by
  rw[List.length_cons,Int.natCast_add]at hc
  obtain⟨q,hq,hG,hz,h0⟩:=qpm G f hm he zo;obtain⟨h1,h2⟩:=q84 G fs q ⟨hG.m0,hG.m1⟩ h0 zo;have hP:Ca.pagesS cf p (f :: fs)=q :: Ca.pagesS cf q fs:=by rw[Ca.pagesS,hq]
  rw[hP];refine⟨by rw[List.length_cons,List.length_cons,h1],λx hx=>?_⟩;rcases List.mem_cons.1 hx with rfl | hx
  .exact⟨_,hG⟩
  .exact h2 x hx
end Go.Proofs.YtncfcbohiodnnaaGreat
