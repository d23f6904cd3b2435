/- Parts of this seat's claims. -/
import Derived.Test.YtncfcbohiodnnaaGreatW27
set_option maxRecDepth 100000
set_option maxHeartbeats 6400000
namespace Go.Proofs.YtncfcbohiodnnaaGreat
open Go.RowKit
variable{w w' W wa wo W':World} {c n pt r B j b m mb q base cap id B0:Nat} {A:Option Addr} {a code what:Int} {cs:Array Value}
theorem qiv{s:Ce} (h:Sz s) (p j:Int):szI (q0t s.obs p j):=by
 unfold q0t;split
 .split
  .exact h.l _
  .exact⟨zd,zd⟩
 .split
  .exact h.q _
  .exact⟨zd,zd⟩
theorem qse{s:Ce} {k:Nat} {y:St} (h:y.call=18) (ht:q5e y.a s.cf.pools.l.length 4=true):q8z s k y =
  (let r:=q3c s k y (q0t s.obs y.a (-1))
  if r.2.1=false then r.2.2
  else if 0<=q0e r.2.2 19 y.a then q15 (q0n r.2.2 k y 0) (q0e r.2.2 19 y.a).toNat 19 r.1
  else if (q45 r.2.2.obs y.a r.1).1=0 then q0n { r.2.2 with obs:=(q45 r.2.2.obs y.a r.1).2 } k y 0 else q7i { r.2.2 with obs:=(q45 r.2.2.obs y.a r.1).2 } k y r.1):=by
 unfold q8z;simp[h,ht]
theorem qsf{s:Ce} {k:Nat} {y:St} (h:y.call=19) (ht:q5e y.a s.cf.pools.l.length 4=true):q8z s k y =
  if qg9 s y (q0t s.obs y.a (-1))=false then qet s k y
  else if (q3b s.obs y.a).2.1=0 then q5v (qn3 { s with obs:=(q3b s.obs y.a).2.2 } k y (q3b s.obs y.a).1 (q3b s.obs y.a).2.1) y.a else qn3 { s with obs:=(q3b s.obs y.a).2.2 } k y (q3b s.obs y.a).1 (q3b s.obs y.a).2.1:=by
 unfold q8z;simp[h,ht]
section
variable{W w0:World} {o0:Gh} {pt c p:Nat} {s:Ce} {n:Nat} {w:World} {o:Gh} {x:Cx}
theorem Nw.there(N:Nw W w0 o0 pt c p s n w o x) {k z m:Int} : cP 359 #[pp c,ii k,ii z,ii m] w λe w'=>e = .returned (.bool (q5e k z m))/\Nw W w0 o0 pt c p s n w' o x:=by
 by_cases q:0<=k
 .have b1:decide (0<=k)=true:=decide_eq_true q;clear q;refine inC ?_;go_in;go_wp2_with fail
  all_goals (go_returns;exact⟨q5k (by unfold q5e;rw[b1];first | rfl | (simp;omega)),N⟩)
 .have b1:decide (0<=k)=false:=decide_eq_false q;clear q;refine inC ?_;go_in;go_wp2_with fail;go_returns;exact⟨q5k (by unfold q5e;rw[b1];rfl),N⟩
theorem Nw.refill(N:Nw W w0 o0 pt c p s (1 + n) w o x) {q:Int} : cP 361 #[pp c,ii q] w λe w'=>q6q W w0 o0 pt c p (q5v s q) n (.tuple #[]) e w':=by
 have lt:=N.lt;have c15:=N.R.c15;by_cases h:0<=q0e s 18 q
 .obtain⟨j,fj,hj,_⟩:=q3x h;have h1:j < s.tk.length:=by rw[<- N.Y.l];exact hj
  have HF:=zhd fj;have hE:q5v s q=if (q45 s.obs q (atD Tk0 s.tk j).data).1≠0 then { s with obs:=(q45 s.obs q (atD Tk0 s.tk j).data).2 } else q09 { s with obs:=(q45 s.obs q (atD Tk0 s.tk j).data).2 } j 18 0 0:=by
   unfold q5v;rw[fj,if_neg zo,Int.toNat_natCast]
  have HE:=zhd hE;have HJ:=zhd h1;clear hE fj hj h h1;refine inC ?_;go_in;go_wp2_with (go_at_call 290;refine(N.first_j HF.out).mono ?_;rintro _ w2 ⟨rfl,N⟩);have lt:=N.lt;have h3:=N.R.c14;have c18:=N.R.c18;obtain⟨hp,hd,T⟩:=N.R.tk j HJ.out;have h0:=T.d;have h5:=T.dn;have h2:=T.dl;obtain⟨tc,tl⟩:=T.k.1.cl;obtain⟨a,hA,hal,hac⟩:=N.R.task HJ.out;rw[hA]at h3
  obtain⟨hdA,hdc,hdd⟩:=hd;simp only at h2;subst h2;simp only[Hd.v]at tc;have h1:=HJ.out;have hP:=N.dr.oput (k:=q) (h0.go N.self.dr.M PaL.nd).1 h5;have h4:=zhd hP;clear hP;go_wp2_with (first
   | (refine zD 18 λK' hK'=>?_;go_wp2_with fail;go_at_call 362;refine(h4.out).mono ?_;rintro _ w2 ⟨rfl,_,N⟩;refine zE ?_;clear hK' K');have lt:=N.lt
   | (go_at_call 292;refine(N.complete HJ.out zd zd).mono ?_;rintro _ w2 ⟨rfl,_,_,N⟩))
  all_goals go_returns
  all_goals refine⟨rfl,N.fin (Mv.refl _ _ _) zo (HE.out.trans ?_)⟩
  .exact if_neg (by simpa using ‹((q45 s.obs q (atD Tk0 s.tk j).data).1 == 0)=true›)
  .exact if_pos (by simpa using ‹((q45 s.obs q (atD Tk0 s.tk j).data).1 == 0)=false›)
 .have HE:Hid (q5v s q=s):=if_pos zo;have b1:decide (0<=q0e s 18 q)=false:=decide_eq_false h;clear h;refine inC ?_;go_in;go_wp2_with (first
   | (go_at_call 290;refine(N.tfirst).mono ?_;rintro _ w2 ⟨rfl,N⟩)
   | (go_quiet (fail);have N:=N.blw (q0a _ _ nq)))
  go_returns;exact⟨rfl,by rw[HE.out];exact(N.mono zo).now⟩
theorem Nw.pool(N:Nw W w0 o0 pt c p s (1 + (1 + (1 + (1 + n)))) w o x) {k:Nat} (hk:k < s.tk.length) {y:St} (hy:y.ok) (hc:y.call=18\/y.call=19):cP 308 #[pp c,ii k,.agg (St.lw y)] w λe w'=>q6q W w0 o0 pt c p (q8z s k y) n (.tuple #[]) e w':=by
 obtain⟨o1,N,kb,m1⟩:=N.step y;obtain⟨y1,call,a,y4,y5,y6⟩:=y;dsimp only at hc kb N m1 ⊢;have lt:=N.lt;have HK:=zhd hk;have HY:=zhd hy;have HZ:=zhd (qiv N.Y.z a (-1));clear hk hy;refine inC ?_;go_in;go_upto_region 1 with fail;generalize w.alloc (.cells #[ii y1,ii call,ii a,ii y4,ii y5,ii y6] 81)=w1 at *;generalize w.heap.size=g at *;obtain⟨kc,lg⟩:=kb.1.cl;have h1:=N.R.c15;have h2:=N.R.c18;have c5:=N.R.cell 5;have h0:=λ(w:World) (o:Gh) (x:Cx) (N:Nw W w1 o1 pt c p s (1 + (1 + (1 + (1 + n)))) w o x)=>N.there (k:=a) (z:=s.cf.pools.l.length) (m:=4);cases hT:q5e a s.cf.pools.l.length 4 with
 | false =>
  have HE:Hid (q8z s k ⟨y1,call,a,y4,y5,y6⟩=q0n s k ⟨y1,call,a,y4,y5,y6⟩ 3):=by unfold Hid q8z;simp[hT]
  rw[hT]at h0
  replace h0:=zhd h0;clear hT hc;go_wp2_with (first
   | (refine zD 6 λK' hK'=>?_;go_wp2_with fail;go_at_call 358;refine(N.dr.osize).mono ?_;rintro _ w2 ⟨rfl,N⟩;refine zE ?_;clear hK' K');have lt:=N.lt;obtain⟨kc,lg⟩:=(kb.go N.M PaL.nd).1.cl;have c5:=N.R.cell 5
   | (refine zD 9 λK' hK'=>?_;go_wp2_with fail;go_at_call 359;refine(h0.out _ _ _ N.dr).mono ?_;rintro _ w2 ⟨rfl,N⟩;refine zE ?_;clear hK' K');have lt:=N.lt;obtain⟨kc,lg⟩:=(kb.go N.M PaL.nd).1.cl
   | (go_at_call 342;refine(N.tell).mono ?_;rintro _ w2 ⟨rfl,_,_,N⟩))
  go_returns;exact⟨rfl,N.fin m1 zo HE.out⟩
 | true =>
  rw[hT]at h0
  replace h0:=zhd h0;rcases hc with rfl | rfl
  .have hE:=qse (s:=s) (k:=k) (y:=⟨y1,18,a,y4,y5,y6⟩) rfl hT;clear hT;dsimp only at hE;have hF:∀ (w:World) (o:Gh) (x:Cx) (N:Nw W w1 o1 pt c p s (1 + (1 + (1 + (1 + n)))) w o x),cP 350 #[pp c,ii k,.agg #[ii y1,ii 18,ii a,ii y4,ii y5,ii y6],ii (q0t s.obs a (-1))] w λe w'=>qoj W w1 o1 pt c p (q3c s k ⟨y1,18,a,y4,y5,y6⟩ (q0t s.obs a (-1))) (1 + (1 + n)) e w':=λ_ _ _ N=>N.from_ (y:=⟨_,_,_,_,_,_⟩) HK.out HY.out HZ.out.2;have h4:(q3c s k ⟨y1,18,a,y4,y5,y6⟩ (q0t s.obs a (-1))).2.2.tk.length=s.tk.length:=q6i.tk;generalize q3c s k ⟨y1,18,a,y4,y5,y6⟩ (q0t s.obs a (-1))=r at *;obtain⟨b,is,s'⟩:=r;dsimp only at hE h4;have HT:Hid (k < s'.tk.length):=by have:=HK.out;show k < _;omega
   replace hF:=zhd hF;clear h4;cases is with
   | false =>
    have HE:=zhd (hE.trans (if_pos rfl));clear hE;go_wp2_with (first
     | (refine zD 6 λK' hK'=>?_;go_wp2_with fail;go_at_call 358;refine(N.dr.osize).mono ?_;rintro _ w2 ⟨rfl,N⟩;refine zE ?_;clear hK' K');have lt:=N.lt;obtain⟨kc,lg⟩:=(kb.go N.M PaL.nd).1.cl;have c5:=N.R.cell 5
     | (refine zD 9 λK' hK'=>?_;go_wp2_with fail;go_at_call 359;refine(h0.out _ _ _ N.dr).mono ?_;rintro _ w2 ⟨rfl,N⟩;refine zE ?_;clear hK' K');have lt:=N.lt;obtain⟨kc,lg⟩:=(kb.go N.M PaL.nd).1.cl
     | (go_at_call 350;refine(hF.out _ _ _ N).mono ?_;rintro _ w2 ⟨A,d,oF,xF,rfl,N,hD,hL⟩))
    go_returns;exact⟨rfl,N.fin m1 zo HE.out⟩
   | true =>
    replace hE:=hE.trans (if_neg zp);by_cases q:0<=q0e s' 19 a
    .obtain⟨j,fj,hj,_⟩:=q3x q;have HE:Hid (q8z s k ⟨y1,18,a,y4,y5,y6⟩=q15 (q0n s' k ⟨y1,18,a,y4,y5,y6⟩ 0) j 19 b):=by rw[fj]at hE;exact hE.trans (if_pos zo)
     have HJ:Hid (q0e s' 19 a=j/\j < s'.tab.length):=⟨fj,hj⟩
     clear hE fj hj q;go_wp2_with (first
      | (refine zD 6 λK' hK'=>?_;go_wp2_with fail;go_at_call 358;refine(N.dr.osize).mono ?_;rintro _ w2 ⟨rfl,N⟩;refine zE ?_;clear hK' K');have lt:=N.lt;obtain⟨kc,lg⟩:=(kb.go N.M PaL.nd).1.cl;have c5:=N.R.cell 5
      | (refine zD 9 λK' hK'=>?_;go_wp2_with fail;go_at_call 359;refine(h0.out _ _ _ N.dr).mono ?_;rintro _ w2 ⟨rfl,N⟩;refine zE ?_;clear hK' K');have lt:=N.lt;obtain⟨kc,lg⟩:=(kb.go N.M PaL.nd).1.cl
      | (go_at_call 350;refine(hF.out _ _ _ N).mono ?_;rintro _ w2 ⟨A,d,oF,xF,rfl,N,hD,hL⟩);have lt:=N.lt;obtain⟨kc,lg⟩:=(kb.go N.M PaL.nd).1.cl;have h1:=N.R.c15;have kb:=kb.go N.M PaL.nd;have m1:=m1.trans N.M;have N:=N.self;have h3:=N.Y.l;have h5:=zhd (Nat.lt_of_lt_of_eq HJ.out.2 h3);clear h3
      | (refine zD 6 λK' hK'=>?_;go_wp2_with fail;go_at_call 290;refine(N.dr.first_j HJ.out.1).mono ?_;rintro _ w2 ⟨rfl,N⟩;refine zE ?_;clear hK' K');have lt:=N.lt;obtain⟨kc,lg⟩:=(kb.go N.M PaL.nd).1.cl
      | (go_at_call 342;refine(N.tell).mono ?_;rintro _ w2 ⟨rfl,_,_,N⟩);have lt:=N.lt;obtain⟨kc,lg⟩:=(kb.go N.M PaL.nd).1.cl
      | (go_at_call 294;refine(N.arrive (hD.go N.M PaL.nd).1 h5.out).mono ?_;rintro _ w2 ⟨rfl,_,_,N⟩))
     go_returns;exact⟨rfl,N.fin m1 zo HE.out⟩
    .replace hE:=hE.trans (if_neg q);have HE:=zhd hE;have b1:decide (0<=q0e s' 19 a)=false:=decide_eq_false q;clear hE q;go_wp2_with (first
      | (refine zD 6 λK' hK'=>?_;go_wp2_with fail;go_at_call 358;refine(N.dr.osize).mono ?_;rintro _ w2 ⟨rfl,N⟩;refine zE ?_;clear hK' K');have lt:=N.lt;obtain⟨kc,lg⟩:=(kb.go N.M PaL.nd).1.cl;have c5:=N.R.cell 5
      | (refine zD 9 λK' hK'=>?_;go_wp2_with fail;go_at_call 359;refine(h0.out _ _ _ N.dr).mono ?_;rintro _ w2 ⟨rfl,N⟩;refine zE ?_;clear hK' K');have lt:=N.lt;obtain⟨kc,lg⟩:=(kb.go N.M PaL.nd).1.cl
      | (go_at_call 350;refine(hF.out _ _ _ N).mono ?_;rintro _ w2 ⟨A,d,oF,xF,rfl,N,hD,hL⟩);have lt:=N.lt;obtain⟨kc,lg⟩:=(kb.go N.M PaL.nd).1.cl;have h1:=N.R.c15;have kb:=kb.go N.M PaL.nd;have m1:=m1.trans N.M;have N:=N.self
      | (refine zD 6 λK' hK'=>?_;go_wp2_with fail;go_at_call 290;refine(N.dr.tfirst).mono ?_;rintro _ w2 ⟨rfl,N⟩;refine zE ?_;clear hK' K');have lt:=N.lt;obtain⟨kc,lg⟩:=(kb.go N.M PaL.nd).1.cl;have h2:=N.R.c18
      | (refine zD 7 λK' hK'=>?_;go_wp2_with fail;go_at_call 362;refine(N.dr.oput (hD.go N.dr.M PaL.nd).1 hL).mono ?_;rintro _ w2 ⟨rfl,_,N⟩;refine zE ?_;clear hK' K');have lt:=N.lt;obtain⟨kc,lg⟩:=(kb.go N.M PaL.nd).1.cl;have HS:=zhd (And.intro hD (And.intro hL N.M));clear hD hL
      | (go_at_call 342;refine(N.tell).mono ?_;rintro _ w2 ⟨rfl,_,_,N⟩)
      | (go_at_call 352;refine(N.wait (y:=⟨_,_,_,_,_,_⟩) HT.out HY.out (HS.out.1.go HS.out.2.2 PaL.nd) HS.out.2.1).mono ?_;rintro _ w2 ⟨rfl,_,_,N⟩))
     all_goals go_returns
     .exact⟨rfl,N.fin m1 zo (HE.out.trans (if_pos (by simpa using ‹((q45 s'.obs a b).1 == 0)=true›)))⟩
     .exact⟨rfl,N.fin m1 zo (HE.out.trans (if_neg (by simpa using ‹((q45 s'.obs a b).1 == 0)=false›)))⟩
  .have hE:=qsf (s:=s) (k:=k) (y:=⟨y1,19,a,y4,y5,y6⟩) rfl hT;clear hT;dsimp only at hE;cases hM:qg9 s ⟨y1,19,a,y4,y5,y6⟩ (q0t s.obs a (-1)) with
   | false =>
    have HE:=zhd (hE.trans (if_pos hM));have HM:=zhd hM;clear hE hM;go_wp2_with (first
     | (refine zD 6 λK' hK'=>?_;go_wp2_with fail;go_at_call 358;refine(N.dr.osize).mono ?_;rintro _ w2 ⟨rfl,N⟩;refine zE ?_;clear hK' K');have lt:=N.lt;obtain⟨kc,lg⟩:=(kb.go N.M PaL.nd).1.cl;have c5:=N.R.cell 5
     | (refine zD 9 λK' hK'=>?_;go_wp2_with fail;go_at_call 359;refine(h0.out _ _ _ N.dr).mono ?_;rintro _ w2 ⟨rfl,N⟩;refine zE ?_;clear hK' K');have lt:=N.lt;obtain⟨kc,lg⟩:=(kb.go N.M PaL.nd).1.cl
     | (go_at_call 347;refine(N.into_f (y:=⟨_,_,_,_,_,_⟩) HK.out HY.out HZ.out.i HM.out).mono ?_;rintro _ w2 ⟨rfl,_,_,N⟩))
    go_returns;exact⟨rfl,N.fin m1 zo HE.out⟩
   | true =>
    have HE:=zhd (hE.trans (if_neg (by simp[hM])));have HM:=zhd hM;clear hE hM;go_wp2_with (first
     | (refine zD 6 λK' hK'=>?_;go_wp2_with fail;go_at_call 358;refine(N.dr.osize).mono ?_;rintro _ w2 ⟨rfl,N⟩;refine zE ?_;clear hK' K');have lt:=N.lt;obtain⟨kc,lg⟩:=(kb.go N.M PaL.nd).1.cl;have c5:=N.R.cell 5
     | (refine zD 9 λK' hK'=>?_;go_wp2_with fail;go_at_call 359;refine(h0.out _ _ _ N.dr).mono ?_;rintro _ w2 ⟨rfl,N⟩;refine zE ?_;clear hK' K');have lt:=N.lt;obtain⟨kc,lg⟩:=(kb.go N.M PaL.nd).1.cl
     | (go_at_call 347;refine(N.into_t (y:=⟨_,_,_,_,_,_⟩) HK.out HY.out HZ.out.i HM.out).mono ?_;rintro _ w2 ⟨rfl,_,_,N⟩);have lt:=N.lt;obtain⟨kc,lg⟩:=(kb.go N.M PaL.nd).1.cl;have h2:=N.R.c18
     | (refine zD 6 λK' hK'=>?_;go_wp2_with fail;go_at_call 360;refine(N.dr.oget).mono ?_;rintro _ w2 ⟨A,d,_,rfl,hD,hL,N⟩;refine zE ?_;clear hK' K');have lt:=N.lt;obtain⟨kc,lg⟩:=(kb.go N.M PaL.nd).1.cl;have kb:=kb.go N.M PaL.nd;have m1:=m1.trans N.M;have N:=N.self
     | (go_at_call 349;refine(N.got (y:=⟨_,_,_,_,_,_⟩) HK.out HY.out hD).mono ?_;rintro _ w2 ⟨rfl,_,_,N⟩);have lt:=N.lt;obtain⟨kc,lg⟩:=(kb.go N.M PaL.nd).1.cl
     | (go_at_call 361;refine(N.refill).mono ?_;rintro _ w2 ⟨rfl,_,_,N⟩))
    all_goals go_returns
    .exact⟨rfl,N.fin m1 zo (HE.out.trans (if_pos (by assumption)))⟩
    .exact⟨rfl,N.fin m1 zo (HE.out.trans (if_neg (by assumption)))⟩
end
theorem qkx{s:Ce} {k:Nat} {y:St} (h:y.call=20) (ht:q5e y.a s.cf.slates.l.length 4=true):q2h s k y =
  (let r:=q3c s k y (q0t s.obs 0 y.a)
  if r.2.1=false then r.2.2
  else q3u (q1r y.a r.1) ((q0i { r.2.2 with obs:=(q2a r.2.2.obs y.a r.1).2 } k y.call (q2a r.2.2.obs y.a r.1).1 0).tab.length + 1) (q0i { r.2.2 with obs:=(q2a r.2.2.obs y.a r.1).2 } k y.call (q2a r.2.2.obs y.a r.1).1 0)):=by
 unfold q2h;simp[h,ht,q0n]
theorem qky{s:Ce} {k:Nat} {y:St} (h:y.call=21) (ht:q5e y.a s.cf.slates.l.length 4=true):q2h s k y =
  if qg9 s y (q0t s.obs 0 y.a)=false then qet s k y else qn3 s k y (q35 s.obs y.a).1 (q35 s.obs y.a).2:=by
 unfold q2h;simp[h,ht]
theorem qhh{s:Ce} {k:Nat} {y:St} (h:y.call=22) (ht:q5e y.a s.cf.slates.l.length 4=true):q2h s k y=q0n { s with obs:=(q3s s.obs y.a).2 } k y (q3s s.obs y.a).1:=by
 unfold q2h;simp[h,ht]
section
variable{W w0:World} {o0:Gh} {pt c p:Nat} {s:Ce} {n:Nat} {w:World} {o:Gh} {x:Cx}
theorem Nw.slate(N:Nw W w0 o0 pt c p s (1 + (1 + (1 + (8 + n)))) w o x) {k:Nat} (hk:k < s.tk.length) {y:St} (hy:y.ok) (hc:y.call=20\/y.call=21\/y.call=22):cP 309 #[pp c,ii k,.agg (St.lw y)] w λe w'=>q6q W w0 o0 pt c p (q2h s k y) n (.tuple #[]) e w':=by
 obtain⟨o1,N,kb,m1⟩:=N.step y;obtain⟨y1,call,a,y4,y5,y6⟩:=y;dsimp only at hc kb N m1 ⊢;have lt:=N.lt;have HK:=zhd hk;have HY:=zhd hy;have HZ:=zhd (qiv N.Y.z 0 a);clear hk hy;refine inC ?_;go_in;go_upto_region 1 with fail;generalize w.alloc (.cells #[ii y1,ii call,ii a,ii y4,ii y5,ii y6] 81)=w1 at *;generalize w.heap.size=g at *;obtain⟨kc,lg⟩:=kb.1.cl;have h1:=N.R.c18;have c6:=N.R.cell 6;have n1:=LS.no N.R.k.2 (ObL.ncell (pt:=pt));have n2:=LS.no kb.2 (ObL.ndata (pt:=pt));have h2:=λ(w:World) (o:Gh) (x:Cx) (N:Nw W w1 o1 pt c p s (1 + (1 + (1 + (8 + n)))) w o x)=>N.there (k:=a) (z:=s.cf.slates.l.length) (m:=4);cases hT:q5e a s.cf.slates.l.length 4 with
 | false =>
  have HE:Hid (q2h s k ⟨y1,call,a,y4,y5,y6⟩=q0n s k ⟨y1,call,a,y4,y5,y6⟩ 3):=by unfold Hid q2h;simp[hT]
  rw[hT]at h2
  replace h2:=zhd h2;clear hT hc;go_wp2_with (first
   | (refine zD 9 λK' hK'=>?_;go_wp2_with fail;go_at_call 359;refine(h2.out _ _ _ N.dr).mono ?_;rintro _ w2 ⟨rfl,N⟩;refine zE ?_;clear hK' K');have lt:=N.lt;obtain⟨kc,lg⟩:=(kb.go N.M PaL.nd).1.cl;have h1:=N.R.c18
   | (go_at_call 342;refine(N.tell).mono ?_;rintro _ w2 ⟨rfl,_,_,N⟩))
  go_returns;exact⟨rfl,N.fin m1 zo HE.out⟩
 | true =>
  rw[hT]at h2
  replace h2:=zhd h2;rcases hc with rfl | rfl | rfl
  .have hE:=qkx (s:=s) (k:=k) (y:=⟨y1,20,a,y4,y5,y6⟩) rfl hT;clear hT;dsimp only at hE;have hF:∀ (w:World) (o:Gh) (x:Cx) (N:Nw W w1 o1 pt c p s (1 + (1 + (1 + (8 + n)))) w o x),cP 350 #[pp c,ii k,.agg #[ii y1,ii 20,ii a,ii y4,ii y5,ii y6],ii (q0t s.obs 0 a)] w λe w'=>qoj W w1 o1 pt c p (q3c s k ⟨y1,20,a,y4,y5,y6⟩ (q0t s.obs 0 a)) (1 + (8 + n)) e w':=λ_ _ _ N=>N.from_ (y:=⟨_,_,_,_,_,_⟩) HK.out HY.out HZ.out.2;generalize q3c s k ⟨y1,20,a,y4,y5,y6⟩ (q0t s.obs 0 a)=r at *;obtain⟨b,is,s'⟩:=r;dsimp only at hE;replace hF:=zhd hF;cases is with
   | false =>
    have HE:=zhd (hE.trans (if_pos rfl));clear hE;go_wp2_with (first
     | (refine zD 9 λK' hK'=>?_;go_wp2_with fail;go_at_call 359;refine(h2.out _ _ _ N.dr).mono ?_;rintro _ w2 ⟨rfl,N⟩;refine zE ?_;clear hK' K');have lt:=N.lt;obtain⟨kc,lg⟩:=(kb.go N.M PaL.nd).1.cl;have h1:=N.R.c18
     | (refine zD 6 λK' hK'=>?_;go_wp2_with fail;go_at_call 358;refine(N.dr.osize).mono ?_;rintro _ w2 ⟨rfl,N⟩;refine zE ?_;clear hK' K');have lt:=N.lt;obtain⟨kc,lg⟩:=(kb.go N.M PaL.nd).1.cl;have h1:=N.R.c18
     | (go_at_call 350;refine(hF.out _ _ _ N).mono ?_;rintro _ w2 ⟨A,d,oF,xF,rfl,N,hD,hL⟩))
    go_returns;exact⟨rfl,N.fin m1 zo HE.out⟩
   | true =>
    replace hE:=hE.trans (if_neg zp);obtain⟨sx,h6⟩:∃ sx,sx=q0i { s' with obs:=(q2a s'.obs a b).2 } k 20 (q2a s'.obs a b).1 0:=⟨_,rfl⟩
    rw[<- h6]at hE
    have hd:=zhd h6;have HE:=zhd hE;clear h6 hE;go_wp2_with (first
     | (refine zD 9 λK' hK'=>?_;go_wp2_with fail;go_at_call 359;refine(h2.out _ _ _ N.dr).mono ?_;rintro _ w2 ⟨rfl,N⟩;refine zE ?_;clear hK' K');have lt:=N.lt;obtain⟨kc,lg⟩:=(kb.go N.M PaL.nd).1.cl;have h1:=N.R.c18
     | (refine zD 6 λK' hK'=>?_;go_wp2_with fail;go_at_call 358;refine(N.dr.osize).mono ?_;rintro _ w2 ⟨rfl,N⟩;refine zE ?_;clear hK' K');have lt:=N.lt;obtain⟨kc,lg⟩:=(kb.go N.M PaL.nd).1.cl;have h1:=N.R.c18
     | (go_at_call 350;refine(hF.out _ _ _ N).mono ?_;rintro _ w2 ⟨A,d,oF,xF,rfl,N,hD,hL⟩);have lt:=N.lt;obtain⟨kc,lg⟩:=(kb.go N.M PaL.nd).1.cl;have h1:=N.R.c18;have kb:=kb.go N.M PaL.nd;have m1:=m1.trans N.M;have N:=N.self;have n1:=LS.no N.R.k.2 (ObL.ncell (pt:=pt));have n2:=LS.no kb.2 (ObL.ndata (pt:=pt));have HW:=zhd (And.intro kb (And.intro m1 hD))
     | ((with_reducible refine q88 (LS (ObL pt) oF) [(10,0),(0,2)] ?_);(try simp only[q03,tkO,dpO]);(repeat(go_big_quiet_step (fail)));refine qwW (λK' hK'=>?_);go_wp2_with fail;go_at_call 365;refine(N.dr.oshow (hD.go N.dr.M PaL.nd).1 hL).mono ?_;rintro _ w3 ⟨rfl,_,hm,N⟩;refine zGB ((fO bR.drew _).trans hm.f) ?_;clear hK' K';intro K' hK';go_wp2_with fail;go_at_call 342;refine(N.tell).mono ?_;rintro _ w3 ⟨rfl,_,_,N⟩;refine zE ?_;clear hK' K');have N:=N.eqS hd.out;have lt:=N.lt;obtain⟨kc,lg⟩:=(kb.go N.M PaL.nd).1.cl;have h8:=N.R.c15
     | (refine zD 6 λK' hK'=>?_;go_wp2_with fail;go_at_call 290;refine(N.dr.tfirst).mono ?_;rintro _ w4 ⟨rfl,N⟩;refine zE ?_;clear hK' K');have h5:=N.lp (q1r a b) 21 a)
    rw[<- HE.out]at h5
    have HS:=zhd h5;clear h5 HE N kb m1 hD;obtain⟨kb,m1,hD⟩:=HW.out;go_loopw [11] (λv wr=>∃ j,LpN W w2 oF pt c p (q1r a b) 21 a n (q2h s k ⟨y1,20,a,y4,y5,y6⟩) v wr j) (λv wr=>q3w (LpN W w2 oF pt c p (q1r a b) 21 a n (q2h s k ⟨y1,20,a,y4,y5,y6⟩) v wr))
    case atStart=>exact⟨_,HS.out⟩
    case round =>
     clear HS;obtain⟨j0,h0⟩:=hrel;have hq:=(q16 h0).1;clear h0;have h3:=λ(v':Value) (w':World) (j:Nat) (h:LpN W w2 oF pt c p (q1r a b) 21 a n (q2h s k ⟨y1,20,a,y4,y5,y6⟩) v' w' j) (hlt:j < _)=>qu3 (v:=u11) (wr:=wr) h hlt;obtain⟨o',x',s',m,rfl,N,h4,h7,hm⟩:=hq;have lt:=N.lt;have h8:=N.R.c15;obtain⟨kc,lg⟩:=(kb.go N.M PaL.nd).1.cl;by_cases q:0<=q0e s' 21 a
     .obtain⟨j,fj,hj,ha⟩:=q3x q;have hb:j < s'.tk.length:=by rw[<- N.Y.l];exact hj
      have he:=q8w (s:=s') (call:=21) (b:=b) hj ha;have h9:=(q7u (qhg (b:=b) fj) (n:=m) zo).symm.trans h4;rw[fj]at h3 h7 hm N
      have N:=N.mono (m:=1 + (q3f (q15 s' j 21 b).tab + n)) zo;have HJ:Hid (q3u (q1r a b) (m - 1) (q15 s' j 21 b)=q2h s k ⟨y1,20,a,y4,y5,y6⟩/\q3f (q15 s' j 21 b).tab < m - 1/\j < s'.tk.length):=⟨h9,zo,hb⟩
      replace h3:=zhd (λv' w' h=>h3 v' w' (q3f (q15 s' j 21 b).tab) h zo);clear h9 he hm h7 h4 hj ha hb q;rw[fj];go_wp2_with (first
       | (go_at_call 294;refine(N.arrive (hD.go N.M PaL.nd).1 HJ.out.2.2).mono ?_;rintro _ w2 ⟨rfl,_,_,N⟩);have lt:=N.lt;obtain⟨kc,lg⟩:=(kb.go N.M PaL.nd).1.cl;have h8:=N.R.c15
       | (refine zD 6 λK' hK'=>?_;go_wp2_with fail;go_at_call 290;refine(N.dr.tfirst).mono ?_;rintro _ w2 ⟨rfl,N⟩;refine zE ?_;clear hK' K'))
      exact h3.out _ _ ⟨_,_,_,m - 1,rfl,N,HJ.out.1,rfl,HJ.out.2.1⟩
     .have HT:Hid (q2h s k ⟨y1,20,a,y4,y5,y6⟩=s'):=h4.symm.trans (q1s (qfs q) _);have b1:decide (0<=q0e s' 21 a)=false:=decide_eq_false q;clear h4 h7 hm q h3;go_wp2_with fail;go_returns;exact⟨rfl,N.fin m1 zo HT.out⟩
  .have hE:=qky (s:=s) (k:=k) (y:=⟨y1,21,a,y4,y5,y6⟩) rfl hT;clear hT;dsimp only at hE;cases hM:qg9 s ⟨y1,21,a,y4,y5,y6⟩ (q0t s.obs 0 a) with
   | false =>
    have HE:=zhd (hE.trans (if_pos hM));have HM:=zhd hM;clear hE hM;go_wp2_with (first
     | (refine zD 9 λK' hK'=>?_;go_wp2_with fail;go_at_call 359;refine(h2.out _ _ _ N.dr).mono ?_;rintro _ w2 ⟨rfl,N⟩;refine zE ?_;clear hK' K');have lt:=N.lt;obtain⟨kc,lg⟩:=(kb.go N.M PaL.nd).1.cl;have h1:=N.R.c18
     | (refine zD 6 λK' hK'=>?_;go_wp2_with fail;go_at_call 358;refine(N.dr.osize).mono ?_;rintro _ w2 ⟨rfl,N⟩;refine zE ?_;clear hK' K');have lt:=N.lt;obtain⟨kc,lg⟩:=(kb.go N.M PaL.nd).1.cl;have h1:=N.R.c18
     | (go_at_call 347;refine(N.into_f (y:=⟨_,_,_,_,_,_⟩) HK.out HY.out HZ.out.i HM.out).mono ?_;rintro _ w2 ⟨rfl,_,_,N⟩))
    go_returns;exact⟨rfl,N.fin m1 zo HE.out⟩
   | true =>
    have HE:=zhd (hE.trans (if_neg (by simp[hM])));have HM:=zhd hM;clear hE hM;go_wp2_with (first
     | (refine zD 9 λK' hK'=>?_;go_wp2_with fail;go_at_call 359;refine(h2.out _ _ _ N.dr).mono ?_;rintro _ w2 ⟨rfl,N⟩;refine zE ?_;clear hK' K');have lt:=N.lt;obtain⟨kc,lg⟩:=(kb.go N.M PaL.nd).1.cl;have h1:=N.R.c18
     | (refine zD 6 λK' hK'=>?_;go_wp2_with fail;go_at_call 358;refine(N.dr.osize).mono ?_;rintro _ w2 ⟨rfl,N⟩;refine zE ?_;clear hK' K');have lt:=N.lt;obtain⟨kc,lg⟩:=(kb.go N.M PaL.nd).1.cl;have h1:=N.R.c18
     | (go_at_call 347;refine(N.into_t (y:=⟨_,_,_,_,_,_⟩) HK.out HY.out HZ.out.i HM.out).mono ?_;rintro _ w2 ⟨rfl,_,_,N⟩);have lt:=N.lt;obtain⟨kc,lg⟩:=(kb.go N.M PaL.nd).1.cl;have h1:=N.R.c18
     | (refine zD 6 λK' hK'=>?_;go_wp2_with fail;go_at_call 364;refine(N.dr.olook).mono ?_;rintro _ w2 ⟨A,d,_,rfl,hD,hL,N⟩;refine zE ?_;clear hK' K');have lt:=N.lt;obtain⟨kc,lg⟩:=(kb.go N.M PaL.nd).1.cl;have kb:=kb.go N.M PaL.nd;have m1:=m1.trans N.M;have N:=N.self
     | (go_at_call 349;refine(N.got (y:=⟨_,_,_,_,_,_⟩) HK.out HY.out hD).mono ?_;rintro _ w2 ⟨rfl,_,_,N⟩))
    go_returns;exact⟨rfl,N.fin m1 zo HE.out⟩
  .have HE:=zhd (qhh (s:=s) (k:=k) (y:=⟨y1,22,a,y4,y5,y6⟩) rfl hT);clear hT;go_wp2_with (first
    | (refine zD 9 λK' hK'=>?_;go_wp2_with fail;go_at_call 359;refine(h2.out _ _ _ N.dr).mono ?_;rintro _ w2 ⟨rfl,N⟩;refine zE ?_;clear hK' K');have lt:=N.lt;obtain⟨kc,lg⟩:=(kb.go N.M PaL.nd).1.cl;have h1:=N.R.c18
    | (refine zD 6 λK' hK'=>?_;go_wp2_with fail;go_at_call 358;refine(N.dr.osize).mono ?_;rintro _ w2 ⟨rfl,N⟩;refine zE ?_;clear hK' K');have lt:=N.lt;obtain⟨kc,lg⟩:=(kb.go N.M PaL.nd).1.cl;have h1:=N.R.c18
    | ((with_reducible refine q88 (LS (ObL pt) o1) [(9,0),(0,2)] ?_);(try simp only[q03,tkO,dpO]);(repeat(go_big_quiet_step (fail)));refine qwW (λK' hK'=>?_);go_wp2_with fail;go_at_call 363;refine(N.dr.owipe).mono ?_;rintro _ w2 ⟨rfl,hm,N⟩;refine zGB ((fO bR.drew _).trans hm.f) ?_;clear hK' K';intro K' hK';go_wp2_with fail;go_at_call 342;refine(N.tell).mono ?_;rintro _ w3 ⟨rfl,_,_,N⟩;refine zE ?_;clear hK' K'))
   go_returns;exact⟨rfl,N.fin m1 zo HE.out⟩
end
section
variable{W w0:World} {o0:Gh} {pt c p:Nat} {s:Ce} {n:Nat} {w:World} {o:Gh} {x:Cx}
theorem Nw.memory(N:Nw W w0 o0 pt c p s (1 + (1 + n)) w o x) {k:Nat} (hk:k < s.tk.length) {y:St} (hy:y.ok) (hc:y.call=24\/y.call=25):cP 310 #[pp c,ii k,.agg #[ii y.cyc,ii y.call,ii y.a,ii y.b,ii y.c,ii y.d]] w λe w'=>q6q W w0 o0 pt c p (q59 s k y) n (.tuple #[]) e w':=by
 obtain⟨o1,N,kb,m1⟩:=N.step y;obtain⟨y1,call,a,y4,y5,y6⟩:=y;dsimp only at kb N m1 ⊢;have lt:=N.lt;have HK:=zhd hk;have HY:=zhd hy;clear hk hy;refine inC ?_;go_in;go_upto_region 1 with fail;generalize w.alloc (.cells #[ii y1,ii call,ii a,ii y4,ii y5,ii y6] 81)=w1 at *;generalize w.heap.size=g at *;obtain⟨kc,lg⟩:=kb.1.cl;have h2:=N.R.c16;rcases hc with rfl | rfl
 .have HE:Hid (q59 s k ⟨y1,24,a,y4,y5,y6⟩=if (Me.loadR s.segs s.bs a 4).2=false then qet s k ⟨y1,24,a,y4,y5,y6⟩ else q0i s k 24 0 (Me.val4 (Me.loadR s.segs s.bs a 4).1)):=by unfold Hid q59;simp
  have hM:=λ(w:World) (o:Gh) (x:Cx) (N:Nw W w1 o1 pt c p s (1 + (1 + n)) w o x)=>N.word HY.out.2.2.1;generalize Me.val4 (Me.loadR s.segs s.bs a 4).1=v at *;generalize (Me.loadR s.segs s.bs a 4).2=M at *;replace hM:=zhd hM;go_wp2_with (first
   | (refine zD 6 λK' hK'=>?_;go_wp2_with fail;go_at_call 366;refine(hM.out _ _ _ N.dr).mono ?_;rintro _ w2 ⟨rfl,N⟩;refine zE ?_;clear hK' K');have lt:=N.lt;obtain⟨kc,lg⟩:=(kb.go N.M PaL.nd).1.cl
   | (go_at_call 368;refine(N.bad HK.out).mono ?_;rintro _ w2 ⟨rfl,_,_,N⟩)
   | (go_at_call 288;refine(N.note).mono ?_;rintro _ w2 ⟨rfl,_,_,N⟩))
  all_goals go_returns
  .exact⟨rfl,N.fin m1 zo (HE.out.trans (if_pos (by simpa using ‹(!M)=true›)))⟩
  .exact⟨rfl,N.fin m1 zo (HE.out.trans (if_neg (by simpa using ‹(!M)=false›)))⟩
 .have HE:Hid (q59 s k ⟨y1,25,a,y4,y5,y6⟩=if (Me.storeR s.segs s.bs a (Me.putB y4)).2=false then qet (q3t s a (Me.putB y4)) k ⟨y1,25,a,y4,y5,y6⟩ else q0i (q3t s a (Me.putB y4)) k 25 0 0):=by unfold Hid q59;simp
  have hM:=λ(w:World) (o:Gh) (x:Cx) (N:Nw W w1 o1 pt c p s (1 + (1 + n)) w o x)=>N.mput HY.out.2.2.1 HY.out.2.2.2.1;have h0:k < (q3t s a (Me.putB y4)).tk.length:=HK.out;have h1:=zhd h0;clear h0;generalize (Me.storeR s.segs s.bs a (Me.putB y4)).2=M at *;generalize q3t s a (Me.putB y4)=s2 at *;replace hM:=zhd hM;go_wp2_with (first
   | (refine zD 6 λK' hK'=>?_;go_wp2_with fail;go_at_call 366;refine(N.dr.word HY.out.2.2.1).mono ?_;rintro _ w2 ⟨rfl,N⟩;refine zE ?_;clear hK' K');have lt:=N.lt;obtain⟨kc,lg⟩:=(kb.go N.M PaL.nd).1.cl;have h2:=N.R.c16
   | (refine zD 8 λK' hK'=>?_;go_wp2_with fail;go_at_call 367;refine(hM.out _ _ _ N.dr).mono ?_;rintro _ w2 ⟨rfl,N⟩;refine zE ?_;clear hK' K');have lt:=N.lt;obtain⟨kc,lg⟩:=(kb.go N.M PaL.nd).1.cl
   | (go_at_call 368;refine(N.bad h1.out).mono ?_;rintro _ w2 ⟨rfl,_,_,N⟩)
   | (go_at_call 288;refine(N.note).mono ?_;rintro _ w2 ⟨rfl,_,_,N⟩))
  all_goals go_returns
  .exact⟨rfl,N.fin m1 zo (HE.out.trans (if_pos (by simpa using ‹(!M)=true›)))⟩
  .exact⟨rfl,N.fin m1 zo (HE.out.trans (if_neg (by simpa using ‹(!M)=false›)))⟩
theorem Nw.become(N:Nw W w0 o0 pt c p s (1 + n) w o x) {k:Nat} (hk:k < s.tk.length) {y:St} (hy:y.ok):cP 311 #[pp c,ii k,.agg #[ii y.cyc,ii y.call,ii y.a,ii y.b,ii y.c,ii y.d]] w λe w'=>q6q W w0 o0 pt c p (q5w s k y) n (.tuple #[]) e w':=by
 obtain⟨o1,N,kb,m1⟩:=N.step y;obtain⟨y1,call,a,y4,y5,y6⟩:=y;dsimp only at kb N m1 ⊢;have lt:=N.lt;have HK:=zhd hk;have HY:=zhd hy;clear hk hy;refine inC ?_;go_in;go_upto_region 1 with fail;generalize w.alloc (.cells #[ii y1,ii call,ii a,ii y4,ii y5,ii y6] 81)=w1 at *;generalize w.heap.size=g at *;obtain⟨kc,lg⟩:=kb.1.cl;have hE:q5w s k ⟨y1,call,a,y4,y5,y6⟩=q5w s k ⟨y1,call,a,y4,y5,y6⟩:=rfl
 conv at hE=>rhs;unfold q5w q0n
 dsimp only at hE;have HE:=zhd hE;clear hE;rcases(show a=0\/a=1\/a=2\/a=3\/((a == 0)=false/\(a == 1)=false/\(a == 2)=false/\(a == 3)=false) by simp;omega) with rfl | rfl | rfl | rfl | ⟨b0,b1,b2,b3⟩
 all_goals go_wp2_with (first
  | (go_at_call 342;refine(N.tell).mono ?_;rintro _ w2 ⟨rfl,_,_,N⟩);have lt:=N.lt;obtain⟨kc,lg⟩:=(kb.go N.M PaL.nd).1.cl
  | (go_at_call 327;refine(N.idle).mono ?_;rintro _ w2 ⟨rfl,_,_,N⟩)
  | (go_at_call 326;refine(N.restart).mono ?_;rintro _ w2 ⟨rfl,_,_,N⟩))
 all_goals go_returns
 all_goals refine⟨rfl,N.fin m1 zo (HE.out.trans ?_)⟩
 .simp
 .simp
 .simp
 .simp
 .simp only[beq_eq_false_iff_ne,ne_eq]at b0 b1 b2 b3;simp[b0,b1,b2,b3]
theorem Nw.call(N:Nw W w0 o0 pt c p s (12 + n) w o x) {k:Nat} (hk:k < s.tk.length) {y:St} (hy:y.ok):cP 262 #[pp c,ii k,.agg #[ii y.cyc,ii y.call,ii y.a,ii y.b,ii y.c,ii y.d]] w λe w'=>q6q W w0 o0 pt c p (q2o s k y) n (.tuple #[]) e w':=by
 obtain⟨o1,N,kb,m1⟩:=N.step y;obtain⟨y1,call,a,y4,y5,y6⟩:=y;dsimp only at kb N m1 ⊢;have lt:=N.lt;have HK:=zhd hk;have HY:=zhd hy;clear hk hy;refine inC ?_;go_in;go_upto_region 1 with fail;generalize w.alloc (.cells #[ii y1,ii call,ii a,ii y4,ii y5,ii y6] 81)=w1 at *;generalize w.heap.size=g at *;obtain⟨kc,lg⟩:=kb.1.cl;have h1:=N.R.c13;have h0:=N.R.c12;rcases(show call=8\/call=23\/call=26\/call=27\/((1:Int)<=call/\call<=7)\/((9:Int)<=call/\call<=12)\/((13:Int)<=call/\call<=17)\/((18:Int)<=call/\call<=19)\/((20:Int)<=call/\call<=22)\/((24:Int)<=call/\call<=25)\/(call < 1\/27 < call) by omega) with rfl | rfl | rfl | rfl | hc | hc | hc | hc | hc | hc | hc
 .have HE:Hid (q2o s k ⟨y1,8,a,y4,y5,y6⟩=q0i s k 8 0 s.win):=by unfold Hid q2o;simp
  go_wp2_with (first
   | (refine zD 8 λK' hK'=>?_;go_wp2_with fail;go_at_call 288;refine((N.mono (m:=1 + n) zo).dr.note).mono ?_;rintro _ w2 ⟨rfl,_,_,N⟩;refine zE ?_;clear hK' K'))
  go_returns;exact⟨rfl,N.fin m1 zo HE.out⟩
 .have HE:Hid (q2o s k ⟨y1,23,a,y4,y5,y6⟩=q1c (q0i s k 23 0 a) 3 k):=by unfold Hid q2o;simp
  go_wp2_with (first
   | (go_at_call 288;refine((N.mono (m:=1 + (1 + n)) zo).note).mono ?_;rintro _ w2 ⟨rfl,_,_,N⟩);have lt:=N.lt
   | (go_at_call 289;refine(N.fault (kd:=3) HK.out zd).mono ?_;rintro _ w2 ⟨rfl,_,_,N⟩))
  go_returns;exact⟨rfl,N.fin m1 zo HE.out⟩
 .have HE:Hid (q2o s k ⟨y1,26,a,y4,y5,y6⟩=q0i s k 26 0 s.mode):=by unfold Hid q2o;simp
  go_wp2_with (first
   | (refine zD 8 λK' hK'=>?_;go_wp2_with fail;go_at_call 288;refine((N.mono (m:=1 + n) zo).dr.note).mono ?_;rintro _ w2 ⟨rfl,_,_,N⟩;refine zE ?_;clear hK' K'))
  go_returns;exact⟨rfl,N.fin m1 zo HE.out⟩
 .have HE:Hid (q2o s k ⟨y1,27,a,y4,y5,y6⟩=q5w s k ⟨y1,27,a,y4,y5,y6⟩):=by unfold Hid q2o;simp
  go_wp2_with (first
   | (go_at_call 311;refine((N.mono (m:=1 + n) zo).become (y:=⟨_,_,_,_,_,_⟩) HK.out HY.out).mono ?_;rintro _ w2 ⟨rfl,_,_,N⟩))
  go_returns;exact⟨rfl,N.fin m1 zo HE.out⟩
 .have HE:Hid (q2o s k ⟨y1,call,a,y4,y5,y6⟩=q4a s k ⟨y1,call,a,y4,y5,y6⟩):=by
   unfold Hid q2o;dsimp only;rw[if_pos zo]
  have HC:Hid (1<=call/\call<=7):=hc;clear hc;go_wp2_with (go_at_call 305;refine((N.mono (m:=1 + n) zo).process (y:=⟨_,_,_,_,_,_⟩) HK.out HY.out).mono ?_;rintro _ w2 ⟨rfl,_,_,N⟩)
  all_goals first | (go_returns;exact⟨rfl,N.fin m1 zo HE.out⟩) | (exfalso;have hc:=HC.out;clear HE HC kb kc lg h1 h0 HK HY;simp only[beq_eq_false_iff_ne,ne_eq]at *;omega)
 .have HE:Hid (q2o s k ⟨y1,call,a,y4,y5,y6⟩=q3d s k ⟨y1,call,a,y4,y5,y6⟩):=by
   unfold Hid q2o;dsimp only;rw[if_neg zo];rw[if_neg zo];rw[if_pos zo]
  have HC:Hid (call=9\/call=10\/call=11\/call=12):=by show call=9\/call=10\/call=11\/call=12;omega
  have b1:(call == 1)=false:=by simp;omega
  have b2:(call == 2)=false:=by simp;omega
  have b3:(call == 3)=false:=by simp;omega
  have b4:(call == 4)=false:=by simp;omega
  have b5:(call == 5)=false:=by simp;omega
  have b6:(call == 6)=false:=by simp;omega
  have b7:(call == 7)=false:=by simp;omega
  have b8:(call == 8)=false:=by simp;omega
  clear hc;go_wp2_with (go_at_call 306;refine((N.mono (m:=1 + (1 + (1 + n))) zo).traffic (y:=⟨_,_,_,_,_,_⟩) HK.out HY.out HC.out).mono ?_;rintro _ w2 ⟨rfl,_,_,N⟩)
  all_goals first | (go_returns;exact⟨rfl,N.fin m1 zo HE.out⟩) | (exfalso;have hc:=HC.out;clear HE HC kb kc lg h1 h0 HK HY;simp only[beq_eq_false_iff_ne,ne_eq]at *;omega)
 .have HE:Hid (q2o s k ⟨y1,call,a,y4,y5,y6⟩=q0y s k ⟨y1,call,a,y4,y5,y6⟩):=by
   unfold Hid q2o;dsimp only;rw[if_neg zo];rw[if_neg zo];rw[if_neg zo];rw[if_pos zo]
  have HC:Hid (call=13\/call=14\/call=15\/call=16\/call=17):=by show call=13\/call=14\/call=15\/call=16\/call=17;omega
  have b1:(call == 1)=false:=by simp;omega
  have b2:(call == 2)=false:=by simp;omega
  have b3:(call == 3)=false:=by simp;omega
  have b4:(call == 4)=false:=by simp;omega
  have b5:(call == 5)=false:=by simp;omega
  have b6:(call == 6)=false:=by simp;omega
  have b7:(call == 7)=false:=by simp;omega
  have b8:(call == 8)=false:=by simp;omega
  have b9:(call == 9)=false:=by simp;omega
  have h2:(call == 10)=false:=by simp;omega
  have h3:(call == 11)=false:=by simp;omega
  have h4:(call == 12)=false:=by simp;omega
  clear hc;go_wp2_with (go_at_call 307;refine((N.mono (m:=1 + (8 + n)) zo).signal (y:=⟨_,_,_,_,_,_⟩) HK.out HY.out HC.out).mono ?_;rintro _ w2 ⟨rfl,_,_,N⟩)
  all_goals first | (go_returns;exact⟨rfl,N.fin m1 zo HE.out⟩) | (exfalso;have hc:=HC.out;clear HE HC kb kc lg h1 h0 HK HY;simp only[beq_eq_false_iff_ne,ne_eq]at *;omega)
 .have HE:Hid (q2o s k ⟨y1,call,a,y4,y5,y6⟩=q8z s k ⟨y1,call,a,y4,y5,y6⟩):=by
   unfold Hid q2o;dsimp only;rw[if_neg zo];rw[if_neg zo];rw[if_neg zo];rw[if_neg zo];rw[if_pos zo]
  have HC:Hid (call=18\/call=19):=by show call=18\/call=19;omega
  have b1:(call == 1)=false:=by simp;omega
  have b2:(call == 2)=false:=by simp;omega
  have b3:(call == 3)=false:=by simp;omega
  have b4:(call == 4)=false:=by simp;omega
  have b5:(call == 5)=false:=by simp;omega
  have b6:(call == 6)=false:=by simp;omega
  have b7:(call == 7)=false:=by simp;omega
  have b8:(call == 8)=false:=by simp;omega
  have b9:(call == 9)=false:=by simp;omega
  have h2:(call == 10)=false:=by simp;omega
  have h3:(call == 11)=false:=by simp;omega
  have h4:(call == 12)=false:=by simp;omega
  have h5:(call == 13)=false:=by simp;omega
  have h6:(call == 14)=false:=by simp;omega
  have h7:(call == 15)=false:=by simp;omega
  have h8:(call == 16)=false:=by simp;omega
  have h9:(call == 17)=false:=by simp;omega
  clear hc;go_wp2_with (go_at_call 308;refine((N.mono (m:=1 + (1 + (1 + (1 + n)))) zo).pool (y:=⟨_,_,_,_,_,_⟩) HK.out HY.out HC.out).mono ?_;rintro _ w2 ⟨rfl,_,_,N⟩)
  all_goals first | (go_returns;exact⟨rfl,N.fin m1 zo HE.out⟩) | (exfalso;have hc:=HC.out;clear HE HC kb kc lg h1 h0 HK HY;simp only[beq_eq_false_iff_ne,ne_eq]at *;omega)
 .have HE:Hid (q2o s k ⟨y1,call,a,y4,y5,y6⟩=q2h s k ⟨y1,call,a,y4,y5,y6⟩):=by
   unfold Hid q2o;dsimp only;rw[if_neg zo];rw[if_neg zo];rw[if_neg zo];rw[if_neg zo];rw[if_neg zo];rw[if_pos zo]
  have HC:Hid (call=20\/call=21\/call=22):=by show call=20\/call=21\/call=22;omega
  have b1:(call == 1)=false:=by simp;omega
  have b2:(call == 2)=false:=by simp;omega
  have b3:(call == 3)=false:=by simp;omega
  have b4:(call == 4)=false:=by simp;omega
  have b5:(call == 5)=false:=by simp;omega
  have b6:(call == 6)=false:=by simp;omega
  have b7:(call == 7)=false:=by simp;omega
  have b8:(call == 8)=false:=by simp;omega
  have b9:(call == 9)=false:=by simp;omega
  have h2:(call == 10)=false:=by simp;omega
  have h3:(call == 11)=false:=by simp;omega
  have h4:(call == 12)=false:=by simp;omega
  have h5:(call == 13)=false:=by simp;omega
  have h6:(call == 14)=false:=by simp;omega
  have h7:(call == 15)=false:=by simp;omega
  have h8:(call == 16)=false:=by simp;omega
  have h9:(call == 17)=false:=by simp;omega
  have ha:(call == 18)=false:=by simp;omega
  have hb:(call == 19)=false:=by simp;omega
  clear hc;go_wp2_with (go_at_call 309;refine((N.mono (m:=1 + (1 + (1 + (8 + n)))) zo).slate (y:=⟨_,_,_,_,_,_⟩) HK.out HY.out HC.out).mono ?_;rintro _ w2 ⟨rfl,_,_,N⟩)
  all_goals first | (go_returns;exact⟨rfl,N.fin m1 zo HE.out⟩) | (exfalso;have hc:=HC.out;clear HE HC kb kc lg h1 h0 HK HY;simp only[beq_eq_false_iff_ne,ne_eq]at *;omega)
 .have HE:Hid (q2o s k ⟨y1,call,a,y4,y5,y6⟩=q59 s k ⟨y1,call,a,y4,y5,y6⟩):=by
   unfold Hid q2o;dsimp only;rw[if_neg zo];rw[if_neg zo];rw[if_neg zo];rw[if_neg zo];rw[if_neg zo];rw[if_neg zo];rw[if_neg zo];rw[if_pos zo]
  have HC:Hid (call=24\/call=25):=by show call=24\/call=25;omega
  have b1:(call == 1)=false:=by simp;omega
  have b2:(call == 2)=false:=by simp;omega
  have b3:(call == 3)=false:=by simp;omega
  have b4:(call == 4)=false:=by simp;omega
  have b5:(call == 5)=false:=by simp;omega
  have b6:(call == 6)=false:=by simp;omega
  have b7:(call == 7)=false:=by simp;omega
  have b8:(call == 8)=false:=by simp;omega
  have b9:(call == 9)=false:=by simp;omega
  have h2:(call == 10)=false:=by simp;omega
  have h3:(call == 11)=false:=by simp;omega
  have h4:(call == 12)=false:=by simp;omega
  have h5:(call == 13)=false:=by simp;omega
  have h6:(call == 14)=false:=by simp;omega
  have h7:(call == 15)=false:=by simp;omega
  have h8:(call == 16)=false:=by simp;omega
  have h9:(call == 17)=false:=by simp;omega
  have ha:(call == 18)=false:=by simp;omega
  have hb:(call == 19)=false:=by simp;omega
  have hd:(call == 20)=false:=by simp;omega
  have he:(call == 21)=false:=by simp;omega
  have hf:(call == 22)=false:=by simp;omega
  have hg:(call == 23)=false:=by simp;omega
  clear hc;go_wp2_with (go_at_call 310;refine((N.mono (m:=1 + (1 + n)) zo).memory (y:=⟨_,_,_,_,_,_⟩) HK.out HY.out HC.out).mono ?_;rintro _ w2 ⟨rfl,_,_,N⟩)
  all_goals first | (go_returns;exact⟨rfl,N.fin m1 zo HE.out⟩) | (exfalso;have hc:=HC.out;clear HE HC kb kc lg h1 h0 HK HY;simp only[beq_eq_false_iff_ne,ne_eq]at *;omega)
 .have HE:Hid (q2o s k ⟨y1,call,a,y4,y5,y6⟩=q1c (q0i s k call 7 0) 1 k):=by
   unfold Hid q2o;dsimp only;rw[if_neg zo];rw[if_neg zo];rw[if_neg zo];rw[if_neg zo];rw[if_neg zo];rw[if_neg zo];rw[if_neg zo];rw[if_neg zo];rw[if_neg zo];rw[if_neg zo]
  have b1:(call == 1)=false:=by simp;omega
  have b2:(call == 2)=false:=by simp;omega
  have b3:(call == 3)=false:=by simp;omega
  have b4:(call == 4)=false:=by simp;omega
  have b5:(call == 5)=false:=by simp;omega
  have b6:(call == 6)=false:=by simp;omega
  have b7:(call == 7)=false:=by simp;omega
  have b8:(call == 8)=false:=by simp;omega
  have b9:(call == 9)=false:=by simp;omega
  have h2:(call == 10)=false:=by simp;omega
  have h3:(call == 11)=false:=by simp;omega
  have h4:(call == 12)=false:=by simp;omega
  have h5:(call == 13)=false:=by simp;omega
  have h6:(call == 14)=false:=by simp;omega
  have h7:(call == 15)=false:=by simp;omega
  have h8:(call == 16)=false:=by simp;omega
  have h9:(call == 17)=false:=by simp;omega
  have ha:(call == 18)=false:=by simp;omega
  have hb:(call == 19)=false:=by simp;omega
  have hd:(call == 20)=false:=by simp;omega
  have he:(call == 21)=false:=by simp;omega
  have hf:(call == 22)=false:=by simp;omega
  have hg:(call == 23)=false:=by simp;omega
  have b24:(call == 24)=false:=by simp;omega
  have b25:(call == 25)=false:=by simp;omega
  have b26:(call == 26)=false:=by simp;omega
  have b27:(call == 27)=false:=by simp;omega
  clear hc;go_wp2_with (first
   | (go_at_call 288;refine((N.mono (m:=1 + (1 + n)) zo).note).mono ?_;rintro _ w2 ⟨rfl,_,_,N⟩);have lt:=N.lt
   | (go_at_call 289;refine(N.fault (kd:=1) HK.out zd).mono ?_;rintro _ w2 ⟨rfl,_,_,N⟩))
  go_returns;exact⟨rfl,N.fin m1 zo HE.out⟩
end
end Go.Proofs.YtncfcbohiodnnaaGreat
