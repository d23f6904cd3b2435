/- Parts of this seat's claims. -/
import Derived.Test.YtncfcbohiodnnaaGreatW26
set_option maxRecDepth 100000
set_option maxHeartbeats 6400000
namespace Go.Proofs.YtncfcbohiodnnaaGreat
open Go.RowKit
variable{w w' W wa wo W':World} {c n pt r B j b m mb q base cap id B0:Nat} {A:Option Addr} {a code what:Int} {cs:Array Value}
def LS(L:Lb->Prop) (o:Gh):Nat->Prop:=λj=>L (o j)
noncomputable instance (L:Lb->Prop) (o:Gh):DecidablePred (LS L o):=λ_=>Classical.propDecidable _
theorem LS.no{L:Lb->Prop} {o:Gh} {l:Lb} (h:o j=l) (hl:¬ L l):¬ LS L o j:=by unfold LS;rw[h];exact hl
theorem PtL.ncell:¬ PtL pt (.cell pt):=by simp[PtL,PkL]
theorem PtL.ndata:¬ PtL pt .data:=by simp[PtL,PkL]
theorem ObL.ncell:¬ ObL pt (.cell pt):=by simp[ObL]
theorem ObL.ndata:¬ ObL pt .data:=by simp[ObL]
theorem PtL.pa:∀ l,PtL pt l->PaL pt l:=by rintro _ ⟨k,(rfl | rfl)⟩ <;> rfl
theorem ObL.pa:∀ l,ObL pt l->PaL pt l:=by rintro _ (rfl | ⟨i,k,rfl⟩) <;> rfl
section
variable{W w0:World} {o0:Gh} {pt c p:Nat} {s:Ce} {n:Nat} {w:World} {o:Gh} {x:Cx}
theorem Nw.pts(N:Nw W w0 o0 pt c p s n w o x) {w':World} {o':Gh} {l:List Ps} (hl:l.length=s.pts.length/\∀ i,psK (atD Ps0 l i) (atD Ps0 s.pts i)) (m:Mv (PtL pt) o w o' w') (P:PsR w' o' pt x.p x.pA x.pc x.pq l):Nw W w0 o0 pt c p { s with pts:=l } n w' o' x :=
 N.zero.go (q8g hl.1 hl.2) m PtL.pa rfl (N.R.setPts m P)
theorem Nw.obs(N:Nw W w0 o0 pt c p s n w o x) {w':World} {o':Gh} {b:Ob} (hk:ObK b s.obs) (m:Mv (ObL pt) o w o' w') (P:ObR w' o' pt x.ob s.cf x.ox b):Nw W w0 o0 pt c p { s with obs:=b } n w' o' x :=
 N.zero.go (q5g hk) m ObL.pa rfl (N.R.setObs m P)
theorem Nw.psize(N:Nw W w0 o0 pt c p s n w o x) {k:Int} : cP 345 #[pp x.p,ii k] w λe w'=>e = .returned (ii (q1m s.pts k))/\Nw W w0 o0 pt c p s n w' o x :=
 (qnq N.R.ps).mono λ_ _ h=>⟨h.1,by rw[<- h.2];exact N⟩
theorem Nw.pcan(N:Nw W w0 o0 pt c p s n w o x) {k:Int} {q inn:Bool} : cP 346 #[pp x.p,ii k,.bool q,.bool inn] w λe w'=>e = .returned (.bool (qa8 s.pts k q inn))/\Nw W w0 o0 pt c p s n w' o x :=
 (qdb N.R.ps).mono λ_ _ h=>⟨h.1,by rw[<- h.2];exact N⟩
theorem Nw.pwrite(N:Nw W w0 o0 pt c p s n w o x) {k:Int} {A:Option Addr} {m d:Nat} {b:List UInt8} (hb:SlB w A m d b) (hbn:b.length<=1000):cP 351 #[pp x.p,ii k,.slice A m d] w λe w'=>e = .returned (ii (q10 s.pts k false b).1)/\∃ o',Mv (PtL pt) o w o' w'/\Nw W w0 o0 pt c p { s with pts:=(q10 s.pts k false b).2 } n w' o' x :=
 (qka N.R.ps hb hbn).mono λ_ _ h=>⟨h.1,h.2.elim λo' h=>⟨o',h.1,N.pts (q63 _ _ _ _) h.1 h.2⟩⟩
theorem Nw.psend(N:Nw W w0 o0 pt c p s n w o x) {k:Int} {A:Option Addr} {m d:Nat} {b:List UInt8} (hb:SlB w A m d b) (hbn:b.length<=1000):cP 291 #[pp x.p,ii k,.slice A m d] w λe w'=>e = .returned (ii (q10 s.pts k true b).1)/\∃ o',Nw W w0 o0 pt c p { s with pts:=(q10 s.pts k true b).2 } n w' o' x :=
 (qfb N.R.ps hb hbn).mono λ_ _ h=>⟨h.1,h.2.elim λo' h=>⟨o',N.pts (q63 _ _ _ _) h.1 h.2⟩⟩
def qz6(W w0:World) (o0:Gh) (pt c p:Nat) (s:Ce) (n:Nat) (x:Cx) (b:List UInt8) (code:Int) (e:Ending) (w':World):Prop:=∃ A d o',e = .returned (.tuple #[.slice A b.length d,ii code])/\Dat w' o' ⟨A,d,b⟩/\b.length<=1000/\Nw W w0 o0 pt c p s n w' o' x
theorem Nw.pread(N:Nw W w0 o0 pt c p s n w o x) {k:Int} : cP 348 #[pp x.p,ii k] w λe w'=>qz6 W w0 o0 pt c p { s with pts:=(q44 s.pts k false).2.2 } n x (q44 s.pts k false).1 (q44 s.pts k false).2.1 e w' :=
 (qnu N.R.ps).mono λ_ _ ⟨A,d,o',h1,h2,h3,m,P⟩=>⟨A,d,o',h1,h2,h3,N.pts (q9i _ _ _) m P⟩
theorem Nw.preceive(N:Nw W w0 o0 pt c p s n w o x) {k:Int} : cP 293 #[pp x.p,ii k] w λe w'=>qz6 W w0 o0 pt c p { s with pts:=(q44 s.pts k true).2.2 } n x (q44 s.pts k true).1 (q44 s.pts k true).2.1 e w' :=
 (q8u N.R.ps).mono λ_ _ ⟨A,d,o',h1,h2,h3,m,P⟩=>⟨A,d,o',h1,h2,h3,N.pts (q9i _ _ _) m P⟩
theorem Nw.otake(N:Nw W w0 o0 pt c p s n w o x) {k:Int} : cP 355 #[pp x.ob,ii k] w λe w'=>e = .returned (ii (q2z s.obs k).1)/\Mv (ObL pt) o w o w'/\Nw W w0 o0 pt c p { s with obs:=(q2z s.obs k).2 } n w' o x :=
 (qnr N.R.ob).mono λ_ _ h=>⟨h.1,h.2.1,N.obs (qc2 _ _).1 h.2.1 h.2.2⟩
theorem Nw.ogive(N:Nw W w0 o0 pt c p s n w o x) {k:Int} : cP 356 #[pp x.ob,ii k] w λe w'=>e = .returned (ii (q30 s.obs k).1)/\Mv (ObL pt) o w o w'/\Nw W w0 o0 pt c p { s with obs:=(q30 s.obs k).2 } n w' o x :=
 (qns N.R.ob).mono λ_ _ h=>⟨h.1,h.2.1,N.obs (qc3 _ _).1 h.2.1 h.2.2⟩
theorem Nw.oflag(N:Nw W w0 o0 pt c p s n w o x) {k:Int} {u:Bool} : cP 357 #[pp x.ob,ii k,.bool u] w λe w'=>e = .returned (ii (q29 s.obs k u).1)/\Mv (ObL pt) o w o w'/\Nw W w0 o0 pt c p { s with obs:=(q29 s.obs k u).2 } n w' o x :=
 (qf9 N.R.ob).mono λ_ _ h=>⟨h.1,h.2.1,N.obs (q8i _ _ _).1 h.2.1 h.2.2⟩
theorem Nw.oup(N:Nw W w0 o0 pt c p s n w o x) {k:Int} : cP 353 #[pp x.ob,ii k] w λe w'=>e = .returned (.tuple #[.bool (qdy s.obs k).1,ii (qdy s.obs k).2])/\Nw W w0 o0 pt c p s n w' o x :=
 (qvq N.R.ob).mono λ_ _ h=>⟨h.1,N.blw h.2⟩
theorem Nw.osize(N:Nw W w0 o0 pt c p s n w o x) {k j:Int} : cP 358 #[pp x.ob,ii k,ii j] w λe w'=>e = .returned (ii (q0t s.obs k j))/\Nw W w0 o0 pt c p s n w' o x :=
 (qny N.R.ob).mono λ_ _ h=>⟨h.1,N.blw h.2⟩
theorem Nw.owipe(N:Nw W w0 o0 pt c p s n w o x) {k:Int} : cP 363 #[pp x.ob,ii k] w λe w'=>e = .returned (ii (q3s s.obs k).1)/\Mv (ObL pt) o w o w'/\Nw W w0 o0 pt c p { s with obs:=(q3s s.obs k).2 } n w' o x :=
 (qnv N.R.ob).mono λ_ _ h=>⟨h.1,h.2.1,N.obs (qc5 _ _).1 h.2.1 h.2.2⟩
theorem Nw.oshow(N:Nw W w0 o0 pt c p s n w o x) {k:Int} {A:Option Addr} {m d:Nat} {b:List UInt8} (hb:SlB w A m d b) (hbn:b.length<=1000):cP 365 #[pp x.ob,ii k,.slice A m d] w λe w'=>e = .returned (ii (q2a s.obs k b).1)/\∃ o',Mv (ObL pt) o w o' w'/\Nw W w0 o0 pt c p { s with obs:=(q2a s.obs k b).2 } n w' o' x :=
 (qnw N.R.ob hb hbn).mono λ_ _ h=>⟨h.1,h.2.elim λo' h=>⟨o',h.1,N.obs (qc4 _ _ _).1 h.1 h.2⟩⟩
theorem Nw.oput(N:Nw W w0 o0 pt c p s n w o x) {k:Int} {A:Option Addr} {m d:Nat} {b:List UInt8} (hb:SlB w A m d b) (hbn:b.length<=1000):cP 362 #[pp x.ob,ii k,.slice A m d] w λe w'=>e = .returned (ii (q45 s.obs k b).1)/\∃ o',Nw W w0 o0 pt c p { s with obs:=(q45 s.obs k b).2 } n w' o' x :=
 (qru N.R.ob hb hbn).mono λ_ _ h=>⟨h.1,h.2.elim λo' h=>⟨o',N.obs (qam _ _ _) h.1 h.2⟩⟩
theorem Nw.olook(N:Nw W w0 o0 pt c p s n w o x) {k:Int} : cP 364 #[pp x.ob,ii k] w λe w'=>qz6 W w0 o0 pt c p s n x (q35 s.obs k).1 (q35 s.obs k).2 e w' :=
 (qnx N.R.ob).mono λ_ _ ⟨A,d,o',h1,h2,h3,m⟩=>⟨A,d,o',h1,h2,h3,N.zero.go (Ext.refl s) m (λ_ h=>h.elim) rfl (N.R.go m (λ_ h=>h.elim) id)⟩
theorem Nw.oget(N:Nw W w0 o0 pt c p s n w o x) {k:Int} : cP 360 #[pp x.ob,ii k] w λe w'=>qz6 W w0 o0 pt c p { s with obs:=(q3b s.obs k).2.2 } n x (q3b s.obs k).1 (q3b s.obs k).2.1 e w' :=
 (qrt N.R.ob).mono λ_ _ ⟨A,d,h1,h2,h3,m,P⟩=>⟨A,d,o,h1,h2,h3,N.obs (qfn _ _).1 m P⟩
theorem Nw.taken(N:Nw W w0 o0 pt c p s (1 + n) w o x) {k:Nat} (hk:k < s.tk.length) {y:St} (hy:y.ok) {code:Int} : cP 354 #[pp c,ii k,.agg (St.lw y),ii code] w λe w'=>q6q W w0 o0 pt c p (q8q s k y code) n (.tuple #[]) e w':=by
 obtain⟨o1,N,kb,m1⟩:=N.step y;have lt:=N.lt;have HK:=zhd hk;have HY:=zhd hy;have HE:Hid (q8q s k y code=if code=1 then q7i s k y [] else q0n s k y code):=rfl;clear hk hy;refine inC ?_;go_in;go_upto_region 1 with fail;generalize w.alloc (.cells (St.lw y) 81)=w1 at *;generalize w.heap.size=g at *;obtain⟨kc,lg⟩:=kb.1.cl;go_wp2_with (first
  | (go_at_call 342;refine(N.tell).mono ?_;rintro _ w2 ⟨rfl,_,_,N⟩)
  | (go_at_call 352;refine(N.wait (y:=⟨_,_,_,_,_,_⟩) HK.out HY.out Dat.nil (Nat.zero_le _)).mono ?_;rintro _ w2 ⟨rfl,_,_,N⟩))
 all_goals go_returns
 all_goals try simp only[beq_iff_eq,beq_eq_false_iff_ne,ne_eq]at *
 .exact⟨rfl,N.fin m1 zo (HE.out.trans (if_pos (by assumption)))⟩
 .exact⟨rfl,N.fin m1 zo (HE.out.trans (if_neg (by assumption)))⟩
end
theorem qc6{s:Ce} {k:Nat} {y:St} {q:Bool} (h:y.call=10/\q=false\/y.call=12/\q=true):q3d s k y=if qa8 s.pts y.a q true=false then q0n s k y 3 else if qg9 s y (q1m s.pts y.a)=false then qet s k y else qn3 { s with pts:=(q44 s.pts y.a q).2.2 } k y (q44 s.pts y.a q).1 (q44 s.pts y.a q).2.1:=by
 unfold q3d;rcases h with ⟨h,rfl⟩ | ⟨h,rfl⟩ <;> simp[h]
theorem qan{s:Ce} {k:Nat} {y:St} {q:Bool} (h:y.call=9/\q=false\/y.call=11/\q=true):q3d s k y=if qa8 s.pts y.a q false=false then q0n s k y 3 else
  let r:=q3c s k y (q1m s.pts y.a)
  if r.2.1=false then r.2.2
  else if y.call=9 then q0n { r.2.2 with pts:=(q10 r.2.2.pts y.a false r.1).2 } k y (q10 r.2.2.pts y.a false r.1).1
  else if (q10 r.2.2.pts y.a true r.1).1=0 then q0n { r.2.2 with pts:=(q10 r.2.2.pts y.a true r.1).2 } k y 0
  else q7i r.2.2 k y r.1:=by
 unfold q3d;rcases h with ⟨h,rfl⟩ | ⟨h,rfl⟩ <;> simp[h]
theorem qz7{l:List Ps} (h:qa8 l a true true=true):q44 l a false=([],3,l):=by
 unfold q44;rw[if_pos];unfold qa8 at h ⊢;simp only[Bool.and_eq_true,beq_iff_eq]at h;simp[h.1.2]
theorem qsd{s:Ce} (h:Sz s) (a:Int):szI (q1m s.pts a):=by
 unfold q1m;split
 .exact(h.p _).1.1
 .exact⟨zd,zd⟩
section
variable{W w0:World} {o0:Gh} {pt c p:Nat} {s:Ce} {n:Nat} {w:World} {o:Gh} {x:Cx}
theorem Nw.into_t(N:Nw W w0 o0 pt c p s (1 + (1 + n)) w o x) {k:Nat} (hk:k < s.tk.length) {y:St} (hy:y.ok) {z:Int} (hz:i64 z) (h:qg9 s y z=true):cP 347 #[pp c,ii k,.agg (St.lw y),ii z] w λe w'=>q6q W w0 o0 pt c p s n (.bool true) e w' :=
 (N.into hk hy hz).mono λ_ _ hh=>by have:=hh;unfold qr4 at this;rw[h,if_pos rfl]at this;exact this
theorem Nw.into_f(N:Nw W w0 o0 pt c p s (1 + (1 + n)) w o x) {k:Nat} (hk:k < s.tk.length) {y:St} (hy:y.ok) {z:Int} (hz:i64 z) (h:qg9 s y z=false):cP 347 #[pp c,ii k,.agg (St.lw y),ii z] w λe w'=>q6q W w0 o0 pt c p (qet s k y) n (.bool false) e w' :=
 (N.into hk hy hz).mono λ_ _ hh=>by have:=hh;unfold qr4 at this;rw[h,if_neg zp]at this;exact this
theorem Nw.pread_no(N:Nw W w0 o0 pt c p s n w o x) {k:Int} (h:q44 s.pts k false=([],3,s.pts)):cP 348 #[pp x.p,ii k] w λe w'=>qz6 W w0 o0 pt c p s n x [] 3 e w':=by
 have h1:=N.pread (k:=k);rw[h]at h1
 exact h1
theorem Nw.traffic(N:Nw W w0 o0 pt c p s (1 + (1 + (1 + n))) w o x) {k:Nat} (hk:k < s.tk.length) {y:St} (hy:y.ok) (hc:y.call=9\/y.call=10\/y.call=11\/y.call=12):cP 306 #[pp c,ii k,.agg (St.lw y)] w λe w'=>q6q W w0 o0 pt c p (q3d s k y) n (.tuple #[]) e w':=by
 obtain⟨o1,N,kb,m1⟩:=N.step y;obtain⟨y1,call,a,y4,y5,y6⟩:=y;dsimp only at hc kb N m1 ⊢;have lt:=N.lt;have HK:=zhd hk;have HY:=zhd hy;have HZ:=zhd (qsd N.Y.z a);clear hk hy;refine inC ?_;go_in;go_upto_region 1 with fail;generalize w.alloc (.cells #[ii y1,ii call,ii a,ii y4,ii y5,ii y6] 81)=w1 at *;generalize w.heap.size=g at *;obtain⟨kc,lg⟩:=kb.1.cl;have h2:=N.R.c17;rcases hc with rfl | rfl | rfl | rfl
 .have hE:=qan (s:=s) (k:=k) (y:=⟨y1,9,a,y4,y5,y6⟩) (q:=false) zp;dsimp only at hE;cases hC:qa8 s.pts a false false with
  | false =>
   have HE:=zhd (hE.trans (if_pos hC));have h1:=λ(w:World) (o:Gh) (x:Cx) (N:Nw W w1 o1 pt c p s (1 + (1 + (1 + n))) w o x)=>N.pcan (k:=a) (q:=false) (inn:=false);rw[hC]at h1
   replace h1:=zhd h1;clear hE hC;go_wp2_with (first
    | (refine zD 6 λK' hK'=>?_;go_wp2_with fail;go_at_call 345;refine(N.dr.psize).mono ?_;rintro _ w2 ⟨rfl,N⟩;refine zE ?_;clear hK' K');have lt:=N.lt;obtain⟨kc,lg⟩:=(kb.go N.M PaL.nd).1.cl;have h2:=N.R.c17
    | (refine zD 8 λK' hK'=>?_;go_wp2_with fail;go_at_call 346;refine(h1.out _ _ _ N.dr).mono ?_;rintro _ w2 ⟨rfl,N⟩;refine zE ?_;clear hK' K');have lt:=N.lt;obtain⟨kc,lg⟩:=(kb.go N.M PaL.nd).1.cl
    | (go_at_call 342;refine(N.tell).mono ?_;rintro _ w2 ⟨rfl,_,_,N⟩))
   go_returns;exact⟨rfl,N.fin m1 zo HE.out⟩
  | true =>
   rw[if_neg (by simp[hC])]at hE
   have h1:=λ(w:World) (o:Gh) (x:Cx) (N:Nw W w1 o1 pt c p s (1 + (1 + (1 + n))) w o x)=>N.pcan (k:=a) (q:=false) (inn:=false);rw[hC]at h1
   replace h1:=zhd h1;clear hC;have hF:∀ (w:World) (o:Gh) (x:Cx) (N:Nw W w1 o1 pt c p s (1 + (1 + (1 + n))) w o x),cP 350 #[pp c,ii k,.agg #[ii y1,ii 9,ii a,ii y4,ii y5,ii y6],ii (q1m s.pts a)] w λe w'=>qoj W w1 o1 pt c p (q3c s k ⟨y1,9,a,y4,y5,y6⟩ (q1m s.pts a)) (1 + n) e w':=λ_ _ _ N=>N.from_ (y:=⟨_,_,_,_,_,_⟩) HK.out HY.out HZ.out.2;have h3:(q3c s k ⟨y1,9,a,y4,y5,y6⟩ (q1m s.pts a)).2.2.tk.length=s.tk.length:=q6i.tk;generalize q3c s k ⟨y1,9,a,y4,y5,y6⟩ (q1m s.pts a)=r at *;obtain⟨b,is,s'⟩:=r;dsimp only at hE h3;have HT:Hid (s'.tk.length=s.tk.length/\s.tk.length=s.tk.length/\k < s'.tk.length):=⟨h3,rfl,by have:=HK.out;omega⟩
   replace hF:=zhd hF;clear h3;cases is with
   | false =>
    have HE:=zhd (hE.trans (if_pos rfl));clear hE;go_wp2_with (first
     | (refine zD 6 λK' hK'=>?_;go_wp2_with fail;go_at_call 345;refine(N.dr.psize).mono ?_;rintro _ w2 ⟨rfl,N⟩;refine zE ?_;clear hK' K');have lt:=N.lt;obtain⟨kc,lg⟩:=(kb.go N.M PaL.nd).1.cl;have h2:=N.R.c17
     | (refine zD 8 λK' hK'=>?_;go_wp2_with fail;go_at_call 346;refine(h1.out _ _ _ N.dr).mono ?_;rintro _ w2 ⟨rfl,N⟩;refine zE ?_;clear hK' K');have lt:=N.lt;obtain⟨kc,lg⟩:=(kb.go N.M PaL.nd).1.cl
     | (go_at_call 350;refine(hF.out _ _ _ N).mono ?_;rintro _ w2 ⟨A,d,oF,xF,rfl,N,hD,hL⟩))
    go_returns;exact⟨rfl,N.fin m1 zo HE.out⟩
   | true =>
    have HE:=zhd (hE.trans (if_neg zp));clear hE;go_wp2_with (first
     | (refine zD 6 λK' hK'=>?_;go_wp2_with fail;go_at_call 345;refine(N.dr.psize).mono ?_;rintro _ w2 ⟨rfl,N⟩;refine zE ?_;clear hK' K');have lt:=N.lt;obtain⟨kc,lg⟩:=(kb.go N.M PaL.nd).1.cl;have h2:=N.R.c17
     | (refine zD 8 λK' hK'=>?_;go_wp2_with fail;go_at_call 346;refine(h1.out _ _ _ N.dr).mono ?_;rintro _ w2 ⟨rfl,N⟩;refine zE ?_;clear hK' K');have lt:=N.lt;obtain⟨kc,lg⟩:=(kb.go N.M PaL.nd).1.cl
     | (go_at_call 350;refine(hF.out _ _ _ N).mono ?_;rintro _ w2 ⟨A,d,oF,xF,rfl,N,hD,hL⟩);have lt:=N.lt;obtain⟨kc,lg⟩:=(kb.go N.M PaL.nd).1.cl;have h2:=N.R.c17;have kb:=kb.go N.M PaL.nd;have m1:=m1.trans N.M;have N:=N.self;have n1:=LS.no N.R.k.2 (PtL.ncell (pt:=pt));have n2:=LS.no kb.2 (PtL.ndata (pt:=pt))
     | ((with_reducible refine q88 (LS (PtL pt) oF) [(10,0),(0,2)] ?_);(try simp only[q03,tkO,dpO]);(repeat(go_big_quiet_step (fail)));refine qwW (λK' hK'=>?_);go_wp2_with fail;go_at_call 351;refine(N.dr.pwrite (hD.go N.dr.M PaL.nd).1 hL).mono ?_;rintro _ w2 ⟨rfl,_,hm,N⟩;refine zGB ((fO bR.drew _).trans hm.f) ?_;clear hK' K';intro K' hK';go_wp2_with fail;go_at_call 342;refine(N.tell).mono ?_;rintro _ w3 ⟨rfl,_,_,N⟩;refine zE ?_;clear hK' K'))
    go_returns;exact⟨rfl,N.fin m1 zo (HE.out.trans (if_pos zp))⟩
 .have hE:=qc6 (s:=s) (k:=k) (y:=⟨y1,10,a,y4,y5,y6⟩) (q:=false) zp;dsimp only at hE;cases hC:qa8 s.pts a false true with
  | false =>
   have HE:=zhd (hE.trans (if_pos hC));have h1:=λ(w:World) (o:Gh) (x:Cx) (N:Nw W w1 o1 pt c p s (1 + (1 + (1 + n))) w o x)=>N.pcan (k:=a) (q:=false) (inn:=true);rw[hC]at h1
   replace h1:=zhd h1;clear hE hC;go_wp2_with (first
    | (refine zD 6 λK' hK'=>?_;go_wp2_with fail;go_at_call 345;refine(N.dr.psize).mono ?_;rintro _ w2 ⟨rfl,N⟩;refine zE ?_;clear hK' K');have lt:=N.lt;obtain⟨kc,lg⟩:=(kb.go N.M PaL.nd).1.cl;have h2:=N.R.c17
    | (refine zD 8 λK' hK'=>?_;go_wp2_with fail;go_at_call 346;refine(h1.out _ _ _ N.dr).mono ?_;rintro _ w2 ⟨rfl,N⟩;refine zE ?_;clear hK' K');have lt:=N.lt;obtain⟨kc,lg⟩:=(kb.go N.M PaL.nd).1.cl
    | (go_at_call 342;refine(N.tell).mono ?_;rintro _ w2 ⟨rfl,_,_,N⟩))
   go_returns;exact⟨rfl,N.fin m1 zo HE.out⟩
  | true =>
   rw[if_neg (by simp[hC])]at hE
   have h1:=λ(w:World) (o:Gh) (x:Cx) (N:Nw W w1 o1 pt c p s (1 + (1 + (1 + n))) w o x)=>N.pcan (k:=a) (q:=false) (inn:=true);rw[hC]at h1
   replace h1:=zhd h1;clear hC;cases hM:qg9 s ⟨y1,10,a,y4,y5,y6⟩ (q1m s.pts a) with
   | false =>
    have HE:=zhd (hE.trans (if_pos hM));have HM:=zhd hM;clear hE hM;go_wp2_with (first
     | (refine zD 6 λK' hK'=>?_;go_wp2_with fail;go_at_call 345;refine(N.dr.psize).mono ?_;rintro _ w2 ⟨rfl,N⟩;refine zE ?_;clear hK' K');have lt:=N.lt;obtain⟨kc,lg⟩:=(kb.go N.M PaL.nd).1.cl;have h2:=N.R.c17
     | (refine zD 8 λK' hK'=>?_;go_wp2_with fail;go_at_call 346;refine(h1.out _ _ _ N.dr).mono ?_;rintro _ w2 ⟨rfl,N⟩;refine zE ?_;clear hK' K');have lt:=N.lt;obtain⟨kc,lg⟩:=(kb.go N.M PaL.nd).1.cl
     | (go_at_call 347;refine(N.into_f (y:=⟨_,_,_,_,_,_⟩) HK.out HY.out HZ.out.i HM.out).mono ?_;rintro _ w2 ⟨rfl,_,_,N⟩))
    go_returns;exact⟨rfl,N.fin m1 zo HE.out⟩
   | true =>
    have HE:=zhd (hE.trans (if_neg (by simp[hM])));have HM:=zhd hM;clear hE hM;go_wp2_with (first
     | (refine zD 6 λK' hK'=>?_;go_wp2_with fail;go_at_call 345;refine(N.dr.psize).mono ?_;rintro _ w2 ⟨rfl,N⟩;refine zE ?_;clear hK' K');have lt:=N.lt;obtain⟨kc,lg⟩:=(kb.go N.M PaL.nd).1.cl;have h2:=N.R.c17
     | (refine zD 8 λK' hK'=>?_;go_wp2_with fail;go_at_call 346;refine(h1.out _ _ _ N.dr).mono ?_;rintro _ w2 ⟨rfl,N⟩;refine zE ?_;clear hK' K');have lt:=N.lt;obtain⟨kc,lg⟩:=(kb.go N.M PaL.nd).1.cl
     | (go_at_call 347;refine(N.into_t (y:=⟨_,_,_,_,_,_⟩) HK.out HY.out HZ.out.i HM.out).mono ?_;rintro _ w2 ⟨rfl,_,_,N⟩);have lt:=N.lt;obtain⟨kc,lg⟩:=(kb.go N.M PaL.nd).1.cl;have h2:=N.R.c17
     | (refine zD 6 λK' hK'=>?_;go_wp2_with fail;go_at_call 348;refine(N.dr.pread).mono ?_;rintro _ w2 ⟨A,d,_,rfl,hD,hL,N⟩;refine zE ?_;clear hK' K');have lt:=N.lt;obtain⟨kc,lg⟩:=(kb.go N.M PaL.nd).1.cl;have h2:=N.R.c17;have kb:=kb.go N.M PaL.nd;have m1:=m1.trans N.M;have N:=N.self
     | (refine zD 6 λK' hK'=>?_;go_wp2_with fail;go_at_call 293;refine(N.dr.preceive).mono ?_;rintro _ w2 ⟨A,d,_,rfl,hD,hL,N⟩;refine zE ?_;clear hK' K');have lt:=N.lt;obtain⟨kc,lg⟩:=(kb.go N.M PaL.nd).1.cl;have kb:=kb.go N.M PaL.nd;have m1:=m1.trans N.M;have N:=N.self
     | (go_at_call 349;refine(N.got (y:=⟨_,_,_,_,_,_⟩) HK.out HY.out hD).mono ?_;rintro _ w2 ⟨rfl,_,_,N⟩))
    go_returns;exact⟨rfl,N.fin m1 zo HE.out⟩
 .have hE:=qan (s:=s) (k:=k) (y:=⟨y1,11,a,y4,y5,y6⟩) (q:=true) zp;dsimp only at hE;cases hC:qa8 s.pts a true false with
  | false =>
   have HE:=zhd (hE.trans (if_pos hC));have h1:=λ(w:World) (o:Gh) (x:Cx) (N:Nw W w1 o1 pt c p s (1 + (1 + (1 + n))) w o x)=>N.pcan (k:=a) (q:=true) (inn:=false);rw[hC]at h1
   replace h1:=zhd h1;clear hE hC;go_wp2_with (first
    | (refine zD 6 λK' hK'=>?_;go_wp2_with fail;go_at_call 345;refine(N.dr.psize).mono ?_;rintro _ w2 ⟨rfl,N⟩;refine zE ?_;clear hK' K');have lt:=N.lt;obtain⟨kc,lg⟩:=(kb.go N.M PaL.nd).1.cl;have h2:=N.R.c17
    | (refine zD 8 λK' hK'=>?_;go_wp2_with fail;go_at_call 346;refine(h1.out _ _ _ N.dr).mono ?_;rintro _ w2 ⟨rfl,N⟩;refine zE ?_;clear hK' K');have lt:=N.lt;obtain⟨kc,lg⟩:=(kb.go N.M PaL.nd).1.cl
    | (go_at_call 342;refine(N.tell).mono ?_;rintro _ w2 ⟨rfl,_,_,N⟩))
   go_returns;exact⟨rfl,N.fin m1 zo HE.out⟩
  | true =>
   rw[if_neg (by simp[hC])]at hE
   have h1:=λ(w:World) (o:Gh) (x:Cx) (N:Nw W w1 o1 pt c p s (1 + (1 + (1 + n))) w o x)=>N.pcan (k:=a) (q:=true) (inn:=false);rw[hC]at h1
   replace h1:=zhd h1;clear hC;have hF:∀ (w:World) (o:Gh) (x:Cx) (N:Nw W w1 o1 pt c p s (1 + (1 + (1 + n))) w o x),cP 350 #[pp c,ii k,.agg #[ii y1,ii 11,ii a,ii y4,ii y5,ii y6],ii (q1m s.pts a)] w λe w'=>qoj W w1 o1 pt c p (q3c s k ⟨y1,11,a,y4,y5,y6⟩ (q1m s.pts a)) (1 + n) e w':=λ_ _ _ N=>N.from_ (y:=⟨_,_,_,_,_,_⟩) HK.out HY.out HZ.out.2;have h3:(q3c s k ⟨y1,11,a,y4,y5,y6⟩ (q1m s.pts a)).2.2.tk.length=s.tk.length:=q6i.tk;generalize q3c s k ⟨y1,11,a,y4,y5,y6⟩ (q1m s.pts a)=r at *;obtain⟨b,is,s'⟩:=r;dsimp only at hE h3;have HT:Hid (s'.tk.length=s.tk.length/\s.tk.length=s.tk.length/\k < s'.tk.length):=⟨h3,rfl,by have:=HK.out;omega⟩
   replace hF:=zhd hF;clear h3;cases is with
   | false =>
    have HE:=zhd (hE.trans (if_pos rfl));clear hE;go_wp2_with (first
     | (refine zD 6 λK' hK'=>?_;go_wp2_with fail;go_at_call 345;refine(N.dr.psize).mono ?_;rintro _ w2 ⟨rfl,N⟩;refine zE ?_;clear hK' K');have lt:=N.lt;obtain⟨kc,lg⟩:=(kb.go N.M PaL.nd).1.cl;have h2:=N.R.c17
     | (refine zD 8 λK' hK'=>?_;go_wp2_with fail;go_at_call 346;refine(h1.out _ _ _ N.dr).mono ?_;rintro _ w2 ⟨rfl,N⟩;refine zE ?_;clear hK' K');have lt:=N.lt;obtain⟨kc,lg⟩:=(kb.go N.M PaL.nd).1.cl
     | (go_at_call 350;refine(hF.out _ _ _ N).mono ?_;rintro _ w2 ⟨A,d,oF,xF,rfl,N,hD,hL⟩))
    go_returns;exact⟨rfl,N.fin m1 zo HE.out⟩
   | true =>
    have HE:=zhd (hE.trans (if_neg zp));clear hE;go_wp2_with (first
     | (refine zD 6 λK' hK'=>?_;go_wp2_with fail;go_at_call 345;refine(N.dr.psize).mono ?_;rintro _ w2 ⟨rfl,N⟩;refine zE ?_;clear hK' K');have lt:=N.lt;obtain⟨kc,lg⟩:=(kb.go N.M PaL.nd).1.cl;have h2:=N.R.c17
     | (refine zD 8 λK' hK'=>?_;go_wp2_with fail;go_at_call 346;refine(h1.out _ _ _ N.dr).mono ?_;rintro _ w2 ⟨rfl,N⟩;refine zE ?_;clear hK' K');have lt:=N.lt;obtain⟨kc,lg⟩:=(kb.go N.M PaL.nd).1.cl
     | (go_at_call 350;refine(hF.out _ _ _ N).mono ?_;rintro _ w2 ⟨A,d,oF,xF,rfl,N,hD,hL⟩);have lt:=N.lt;obtain⟨kc,lg⟩:=(kb.go N.M PaL.nd).1.cl;have h2:=N.R.c17;have kb:=kb.go N.M PaL.nd;have m1:=m1.trans N.M;have N:=N.self;have n1:=LS.no N.R.k.2 (PtL.ncell (pt:=pt));have n2:=LS.no kb.2 (PtL.ndata (pt:=pt))
     | (refine zD 7 λK' hK'=>?_;go_wp2_with fail;go_at_call 291;refine(N.dr.psend (hD.go N.dr.M PaL.nd).1 hL).mono ?_;rintro _ w2 ⟨rfl,_,N⟩;refine zE ?_;clear hK' K');have lt:=N.lt;obtain⟨kc,lg⟩:=(kb.go N.M PaL.nd).1.cl;have HS:=zhd (And.intro hD (And.intro hL N.M));clear hD hL
     | (go_at_call 342;refine(N.tell).mono ?_;rintro _ w2 ⟨rfl,_,_,N⟩)
     | (go_at_call 352;refine(N.wait (y:=⟨_,_,_,_,_,_⟩) (HT.out.2.2) HY.out (HS.out.1.go HS.out.2.2 PaL.nd) HS.out.2.1).mono ?_;rintro _ w2 ⟨rfl,_,_,N⟩))
    all_goals go_returns
    .have h0:(q10 s'.pts a true b).1=0:=by simpa using ‹((q10 s'.pts a true b).1 == 0)=true›
     exact⟨rfl,N.fin m1 zo (HE.out.trans ((if_neg zp).trans (if_pos h0)))⟩
    .have h0:¬ (q10 s'.pts a true b).1=0:=by simpa using ‹((q10 s'.pts a true b).1 == 0)=false›
     refine⟨rfl,N.fin m1 zo (HE.out.trans ((if_neg zp).trans ((if_neg h0).trans ?_)))⟩;rw[qin h0]
 .have hE:=qc6 (s:=s) (k:=k) (y:=⟨y1,12,a,y4,y5,y6⟩) (q:=true) zp;dsimp only at hE;cases hC:qa8 s.pts a true true with
  | false =>
   have HE:=zhd (hE.trans (if_pos hC));have h1:=λ(w:World) (o:Gh) (x:Cx) (N:Nw W w1 o1 pt c p s (1 + (1 + (1 + n))) w o x)=>N.pcan (k:=a) (q:=true) (inn:=true);rw[hC]at h1
   replace h1:=zhd h1;clear hE hC;go_wp2_with (first
    | (refine zD 6 λK' hK'=>?_;go_wp2_with fail;go_at_call 345;refine(N.dr.psize).mono ?_;rintro _ w2 ⟨rfl,N⟩;refine zE ?_;clear hK' K');have lt:=N.lt;obtain⟨kc,lg⟩:=(kb.go N.M PaL.nd).1.cl;have h2:=N.R.c17
    | (refine zD 8 λK' hK'=>?_;go_wp2_with fail;go_at_call 346;refine(h1.out _ _ _ N.dr).mono ?_;rintro _ w2 ⟨rfl,N⟩;refine zE ?_;clear hK' K');have lt:=N.lt;obtain⟨kc,lg⟩:=(kb.go N.M PaL.nd).1.cl
    | (go_at_call 342;refine(N.tell).mono ?_;rintro _ w2 ⟨rfl,_,_,N⟩))
   go_returns;exact⟨rfl,N.fin m1 zo HE.out⟩
  | true =>
   rw[if_neg (by simp[hC])]at hE
   have HR:Hid (q44 s.pts a false=([],3,s.pts)):=qz7 hC;have h1:=λ(w:World) (o:Gh) (x:Cx) (N:Nw W w1 o1 pt c p s (1 + (1 + (1 + n))) w o x)=>N.pcan (k:=a) (q:=true) (inn:=true);rw[hC]at h1
   replace h1:=zhd h1;clear hC;cases hM:qg9 s ⟨y1,12,a,y4,y5,y6⟩ (q1m s.pts a) with
   | false =>
    have HE:=zhd (hE.trans (if_pos hM));have HM:=zhd hM;clear hE hM;go_wp2_with (first
     | (refine zD 6 λK' hK'=>?_;go_wp2_with fail;go_at_call 345;refine(N.dr.psize).mono ?_;rintro _ w2 ⟨rfl,N⟩;refine zE ?_;clear hK' K');have lt:=N.lt;obtain⟨kc,lg⟩:=(kb.go N.M PaL.nd).1.cl;have h2:=N.R.c17
     | (refine zD 8 λK' hK'=>?_;go_wp2_with fail;go_at_call 346;refine(h1.out _ _ _ N.dr).mono ?_;rintro _ w2 ⟨rfl,N⟩;refine zE ?_;clear hK' K');have lt:=N.lt;obtain⟨kc,lg⟩:=(kb.go N.M PaL.nd).1.cl
     | (go_at_call 347;refine(N.into_f (y:=⟨_,_,_,_,_,_⟩) HK.out HY.out HZ.out.i HM.out).mono ?_;rintro _ w2 ⟨rfl,_,_,N⟩))
    go_returns;exact⟨rfl,N.fin m1 zo HE.out⟩
   | true =>
    have HE:=zhd (hE.trans (if_neg (by simp[hM])));have HM:=zhd hM;clear hE hM;go_wp2_with (first
     | (refine zD 6 λK' hK'=>?_;go_wp2_with fail;go_at_call 345;refine(N.dr.psize).mono ?_;rintro _ w2 ⟨rfl,N⟩;refine zE ?_;clear hK' K');have lt:=N.lt;obtain⟨kc,lg⟩:=(kb.go N.M PaL.nd).1.cl;have h2:=N.R.c17
     | (refine zD 8 λK' hK'=>?_;go_wp2_with fail;go_at_call 346;refine(h1.out _ _ _ N.dr).mono ?_;rintro _ w2 ⟨rfl,N⟩;refine zE ?_;clear hK' K');have lt:=N.lt;obtain⟨kc,lg⟩:=(kb.go N.M PaL.nd).1.cl
     | (go_at_call 347;refine(N.into_t (y:=⟨_,_,_,_,_,_⟩) HK.out HY.out HZ.out.i HM.out).mono ?_;rintro _ w2 ⟨rfl,_,_,N⟩);have lt:=N.lt;obtain⟨kc,lg⟩:=(kb.go N.M PaL.nd).1.cl;have h2:=N.R.c17
     | (refine zD 6 λK' hK'=>?_;go_wp2_with fail;go_at_call 348;refine(N.dr.pread_no HR.out).mono ?_;rintro _ w2 ⟨A,d,_,rfl,hD,hL,N⟩;refine zE ?_;clear hK' K');have lt:=N.lt;obtain⟨kc,lg⟩:=(kb.go N.M PaL.nd).1.cl;have h2:=N.R.c17;have kb:=kb.go N.M PaL.nd;have m1:=m1.trans N.M;have N:=N.self
     | (refine zD 6 λK' hK'=>?_;go_wp2_with fail;go_at_call 293;refine(N.dr.preceive).mono ?_;rintro _ w2 ⟨A,d,_,rfl,hD,hL,N⟩;refine zE ?_;clear hK' K');have lt:=N.lt;obtain⟨kc,lg⟩:=(kb.go N.M PaL.nd).1.cl;have kb:=kb.go N.M PaL.nd;have m1:=m1.trans N.M;have N:=N.self
     | (go_at_call 349;refine(N.got (y:=⟨_,_,_,_,_,_⟩) HK.out HY.out hD).mono ?_;rintro _ w2 ⟨rfl,_,_,N⟩))
    go_returns;exact⟨rfl,N.fin m1 zo HE.out⟩
end
theorem qhf{s:Ce} {call:Int} (h:q0e s call what=j):q1q call what s=some (q09 s j call 0 0):=by unfold q1q;rw[h,if_neg zo,Int.toNat_natCast]
theorem qfr{s:Ce} {call:Int} (h:¬ 0<=q0e s call what):q1q call what s=none:=by unfold q1q;rw[if_pos zo]
theorem qhg{s:Ce} {b:List UInt8} (h:q0e s 21 what=j):q1r what b s=some (q15 s j 21 b):=by unfold q1r;rw[h,if_neg zo,Int.toNat_natCast]
theorem qfs{s:Ce} {b:List UInt8} (h:¬ 0<=q0e s 21 what):q1r what b s=none:=by unfold q1r;rw[if_pos zo]
def LpN(W w0:World) (o0:Gh) (pt c p:Nat) (f:Ce->Option Ce) (call what:Int) (n:Nat) (tgt:Ce) (v:Value) (wr:World) (j:Nat):Prop :=
 ∃ (o':Gh) (x':Cx) (s':Ce) (m:Nat),v=ii (q0e s' call what)/\Nw W w0 o0 pt c p s' (j + n) wr o' x'/\q3u f m s'=tgt/\q3f s'.tab=j/\j < m
section
variable{W w0:World} {o0:Gh} {pt c p:Nat} {s:Ce} {n:Nat} {w:World} {o:Gh} {x:Cx}
theorem Nw.lp(N:Nw W w0 o0 pt c p s (8 + n) w o x) (f:Ce->Option Ce) (call what:Int):LpN W w0 o0 pt c p f call what n (q3u f (s.tab.length + 1) s) (ii (q0e s call what)) w (q3f s.tab):=by
 have h:=q7q s.tab;have h8:=N.Y.H.n8;have hl:=N.Y.l;exact⟨o,x,s,s.tab.length + 1,rfl,N.mono zo,rfl,rfl,zo⟩
theorem qu3{f:Ce->Option Ce} {call:Int} {tgt:Ce} {v v':Value} {wr:World} (h:LpN W w0 o0 pt c p f call what n tgt v' w' j) (hlt:j < q3w (LpN W w0 o0 pt c p f call what n tgt v wr)):(∃ j,LpN W w0 o0 pt c p f call what n tgt v' w' j)/\q3w (LpN W w0 o0 pt c p f call what n tgt v' w') < q3w (LpN W w0 o0 pt c p f call what n tgt v wr) :=
 ⟨⟨j,h⟩,Nat.lt_of_le_of_lt ((q16 h).2 j h) hlt⟩
theorem Nw.eqS{s':Ce} (N:Nw W w0 o0 pt c p s n w o x) (h:s'=s):Nw W w0 o0 pt c p s' n w o x:=by rw[h];exact N
theorem Nw.first_j(N:Nw W w0 o0 pt c p s n w o x) {call what:Int} {j:Nat} (h:q0e s call what=j):cP 290 #[pp x.t,ii call,ii what] w λe w'=>e = .returned (ii j)/\Nw W w0 o0 pt c p s n w' o x:=by
 have:=N.tfirst (call:=call) (what:=what);rw[h]at this
 exact this
theorem Nw.signal(N:Nw W w0 o0 pt c p s (1 + (8 + n)) w o x) {k:Nat} (hk:k < s.tk.length) {y:St} (hy:y.ok) (hc:y.call=13\/y.call=14\/y.call=15\/y.call=16\/y.call=17):cP 307 #[pp c,ii k,.agg (St.lw y)] w λe w'=>q6q W w0 o0 pt c p (q0y s k y) n (.tuple #[]) e w':=by
 obtain⟨o1,N,kb,m1⟩:=N.step y;obtain⟨y1,call,a,y4,y5,y6⟩:=y;dsimp only at hc kb N m1 ⊢;have lt:=N.lt;have HK:=zhd hk;have HY:=zhd hy;clear hk hy;refine inC ?_;go_in;go_upto_region 1 with fail;generalize w.alloc (.cells #[ii y1,ii call,ii a,ii y4,ii y5,ii y6] 81)=w1 at *;generalize w.heap.size=g at *;obtain⟨kc,lg⟩:=kb.1.cl;have h3:=N.R.c15;have h4:=N.R.c18;have n1:=LS.no N.R.k.2 (ObL.ncell (pt:=pt));have n2:=LS.no kb.2 (ObL.ndata (pt:=pt));rcases hc with rfl | rfl | rfl | rfl | rfl
 .have HE:Hid (q0y s k ⟨y1,13,a,y4,y5,y6⟩=q8q { s with obs:=(q2z s.obs a).2 } k ⟨y1,13,a,y4,y5,y6⟩ (q2z s.obs a).1):=by unfold Hid q0y;simp
  go_wp2_with (first
   | (refine zD 6 λK' hK'=>?_;go_wp2_with fail;go_at_call 353;refine(N.dr.oup).mono ?_;rintro _ w2 ⟨rfl,N⟩;refine zE ?_;clear hK' K');have lt:=N.lt;obtain⟨kc,lg⟩:=(kb.go N.M PaL.nd).1.cl;have h4:=N.R.c18
   | ((with_reducible refine q88 (LS (ObL pt) o1) [(9,0),(0,2)] ?_);(try simp only[q03,tkO,dpO]);(repeat(go_big_quiet_step (fail)));refine qwW (λK' hK'=>?_);go_wp2_with fail;go_at_call 355;refine(N.dr.otake).mono ?_;rintro _ w2 ⟨rfl,hm,N⟩;refine zGB ((fO bR.drew _).trans hm.f) ?_;clear hK' K';intro K' hK';go_wp2_with fail;go_at_call 354;refine(N.taken (y:=⟨_,_,_,_,_,_⟩) HK.out HY.out).mono ?_;rintro _ w3 ⟨rfl,_,_,N⟩;refine zE ?_;clear hK' K'))
  go_returns;exact⟨rfl,N.fin m1 zo HE.out⟩
 .by_cases q:0<=q0e s 13 a
  .obtain⟨j,fj,hj,_⟩:=q3x q;have HJ:Hid (q0e s 13 a=j/\j < s.tk.length):=⟨fj,by rw[<- N.Y.l];exact hj⟩
   have HE:Hid (q0y s k ⟨y1,14,a,y4,y5,y6⟩=q09 (q0n s k ⟨y1,14,a,y4,y5,y6⟩ 0) j 13 0 0):=by unfold Hid q0y;simp[fj]
   clear fj hj q;go_wp2_with (first
    | (refine zD 6 λK' hK'=>?_;go_wp2_with fail;go_at_call 353;refine(N.dr.oup).mono ?_;rintro _ w2 ⟨rfl,N⟩;refine zE ?_;clear hK' K');have lt:=N.lt;obtain⟨kc,lg⟩:=(kb.go N.M PaL.nd).1.cl;have h3:=N.R.c15
    | (refine zD 6 λK' hK'=>?_;go_wp2_with fail;go_at_call 290;refine(N.dr.first_j HJ.out.1).mono ?_;rintro _ w2 ⟨rfl,N⟩;refine zE ?_;clear hK' K');have lt:=N.lt;obtain⟨kc,lg⟩:=(kb.go N.M PaL.nd).1.cl
    | (go_at_call 342;refine(N.tell).mono ?_;rintro _ w2 ⟨rfl,_,_,N⟩);have lt:=N.lt;have N:=N.mono (m:=1 + n) zo
    | (go_at_call 292;refine(N.complete HJ.out.2 zd zd).mono ?_;rintro _ w2 ⟨rfl,_,_,N⟩))
   go_returns;exact⟨rfl,N.fin m1 zo HE.out⟩
  .have HE:Hid (q0y s k ⟨y1,14,a,y4,y5,y6⟩=q0n { s with obs:=(q30 s.obs a).2 } k ⟨y1,14,a,y4,y5,y6⟩ (q30 s.obs a).1):=by unfold Hid q0y;simp[q]
   have b1:decide (0<=q0e s 13 a)=false:=decide_eq_false q;clear q;go_wp2_with (first
    | (refine zD 6 λK' hK'=>?_;go_wp2_with fail;go_at_call 353;refine(N.dr.oup).mono ?_;rintro _ w2 ⟨rfl,N⟩;refine zE ?_;clear hK' K');have lt:=N.lt;obtain⟨kc,lg⟩:=(kb.go N.M PaL.nd).1.cl;have h3:=N.R.c15
    | (refine zD 6 λK' hK'=>?_;go_wp2_with fail;go_at_call 290;refine(N.dr.tfirst).mono ?_;rintro _ w2 ⟨rfl,N⟩;refine zE ?_;clear hK' K');have lt:=N.lt;obtain⟨kc,lg⟩:=(kb.go N.M PaL.nd).1.cl;have h4:=N.R.c18
    | ((with_reducible refine q88 (LS (ObL pt) o1) [(9,0),(0,2)] ?_);(try simp only[q03,tkO,dpO]);(repeat(go_big_quiet_step (fail)));refine qwW (λK' hK'=>?_);go_wp2_with fail;go_at_call 356;refine(N.dr.ogive).mono ?_;rintro _ w2 ⟨rfl,hm,N⟩;refine zGB ((fO bR.drew _).trans hm.f) ?_;clear hK' K';intro K' hK';go_wp2_with fail;go_at_call 342;refine(N.tell).mono ?_;rintro _ w3 ⟨rfl,_,_,N⟩;refine zE ?_;clear hK' K'))
   go_returns;exact⟨rfl,N.fin m1 zo HE.out⟩
 .obtain⟨sx,h6⟩:∃ sx,sx=q0i { s with obs:=(q29 s.obs a true).2 } k 15 (q29 s.obs a true).1 0:=⟨_,rfl⟩
  have HE:Hid (q0y s k ⟨y1,15,a,y4,y5,y6⟩=q3u (q1q 17 a) (sx.tab.length + 1) sx):=by rw[h6];unfold Hid q0y q0n;simp
  have hb:=zhd h6;clear h6;go_wp2_with (first
   | (refine zD 6 λK' hK'=>?_;go_wp2_with fail;go_at_call 353;refine(N.dr.oup).mono ?_;rintro _ w2 ⟨rfl,N⟩;refine zE ?_;clear hK' K');have lt:=N.lt;obtain⟨kc,lg⟩:=(kb.go N.M PaL.nd).1.cl;have h4:=N.R.c18
   | ((with_reducible refine q88 (LS (ObL pt) o1) [(9,0),(0,2)] ?_);(try simp only[q03,tkO,dpO]);(repeat(go_big_quiet_step (fail)));refine qwW (λK' hK'=>?_);go_wp2_with fail;go_at_call 357;refine(N.dr.oflag).mono ?_;rintro _ w2 ⟨rfl,hm,N⟩;refine zGB ((fO bR.drew _).trans hm.f) ?_;clear hK' K';intro K' hK';go_wp2_with fail;go_at_call 342;refine(N.tell).mono ?_;rintro _ w3 ⟨rfl,_,_,N⟩;refine zE ?_;clear hK' K');have N:=N.eqS hb.out;have lt:=N.lt;obtain⟨kc,lg⟩:=(kb.go N.M PaL.nd).1.cl;have h3:=N.R.c15
   | (refine zD 6 λK' hK'=>?_;go_wp2_with fail;go_at_call 290;refine(N.dr.tfirst).mono ?_;rintro _ w2 ⟨rfl,N⟩;refine zE ?_;clear hK' K');have h5:=N.lp (q1q 17 a) 17 a)
  rw[<- HE.out]at h5
  have HS:=zhd h5;clear h5 HE N;go_loopw [9] (λv wr=>∃ j,LpN W w1 o1 pt c p (q1q 17 a) 17 a n (q0y s k ⟨y1,15,a,y4,y5,y6⟩) v wr j) (λv wr=>q3w (LpN W w1 o1 pt c p (q1q 17 a) 17 a n (q0y s k ⟨y1,15,a,y4,y5,y6⟩) v wr))
  case atStart=>exact⟨_,HS.out⟩
  case round =>
   clear HS;obtain⟨j0,h0⟩:=hrel;have hq:=(q16 h0).1;clear h0;have h1:=λ(v':Value) (w':World) (j:Nat) (h:LpN W w1 o1 pt c p (q1q 17 a) 17 a n (q0y s k ⟨y1,15,a,y4,y5,y6⟩) v' w' j) (hlt:j < _)=>qu3 (v:=u9) (wr:=wr) h hlt;obtain⟨o',x',s',m,rfl,N,h2,h7,hm⟩:=hq;have lt:=N.lt;have h3:=N.R.c15;obtain⟨kc,lg⟩:=(kb.go N.M PaL.nd).1.cl;by_cases q:0<=q0e s' 17 a
   .obtain⟨j,fj,hj,h9⟩:=q3x q;have ha:j < s'.tk.length:=by rw[<- N.Y.l];exact hj
    have hd:=q4f (s:=s') (call:=17) (code:=0) (v:=0) hj h9;have h8:=(q7u (qhf fj) (n:=m) zo).symm.trans h2;rw[fj]at h1 h7 hm N
    have N:=N.mono (m:=1 + (q3f (q09 s' j 17 0 0).tab + n)) zo;have HJ:Hid (q3u (q1q 17 a) (m - 1) (q09 s' j 17 0 0)=q0y s k ⟨y1,15,a,y4,y5,y6⟩/\q3f (q09 s' j 17 0 0).tab < m - 1/\j < s'.tk.length):=⟨h8,zo,ha⟩
    replace h1:=zhd (λv' w' h=>h1 v' w' (q3f (q09 s' j 17 0 0).tab) h zo);clear h8 hd hm h7 h2 hj h9 ha q;rw[fj];go_wp2_with (first
     | (go_at_call 292;refine(N.complete HJ.out.2.2 zd zd).mono ?_;rintro _ w2 ⟨rfl,_,_,N⟩);have lt:=N.lt;obtain⟨kc,lg⟩:=(kb.go N.M PaL.nd).1.cl;have h3:=N.R.c15
     | (refine zD 6 λK' hK'=>?_;go_wp2_with fail;go_at_call 290;refine(N.dr.tfirst).mono ?_;rintro _ w2 ⟨rfl,N⟩;refine zE ?_;clear hK' K'))
    exact h1.out _ _ ⟨_,_,_,m - 1,rfl,N,HJ.out.1,rfl,HJ.out.2.1⟩
   .have HT:Hid (q0y s k ⟨y1,15,a,y4,y5,y6⟩=s'):=h2.symm.trans (q1s (qfr q) _);have b1:decide (0<=q0e s' 17 a)=false:=decide_eq_false q;clear h2 h7 hm q h1;go_wp2_with fail;go_returns;exact⟨rfl,N.fin m1 zo HT.out⟩
 .have HE:Hid (q0y s k ⟨y1,16,a,y4,y5,y6⟩=q0n { s with obs:=(q29 s.obs a false).2 } k ⟨y1,16,a,y4,y5,y6⟩ (q29 s.obs a false).1):=by unfold Hid q0y;simp
  go_wp2_with (first
   | (refine zD 6 λK' hK'=>?_;go_wp2_with fail;go_at_call 353;refine(N.dr.oup).mono ?_;rintro _ w2 ⟨rfl,N⟩;refine zE ?_;clear hK' K');have lt:=N.lt;obtain⟨kc,lg⟩:=(kb.go N.M PaL.nd).1.cl;have h4:=N.R.c18
   | ((with_reducible refine q88 (LS (ObL pt) o1) [(9,0),(0,2)] ?_);(try simp only[q03,tkO,dpO]);(repeat(go_big_quiet_step (fail)));refine qwW (λK' hK'=>?_);go_wp2_with fail;go_at_call 357;refine(N.dr.oflag).mono ?_;rintro _ w2 ⟨rfl,hm,N⟩;refine zGB ((fO bR.drew _).trans hm.f) ?_;clear hK' K';intro K' hK';go_wp2_with fail;go_at_call 342;refine(N.tell).mono ?_;rintro _ w3 ⟨rfl,_,_,N⟩;refine zE ?_;clear hK' K'))
  go_returns;exact⟨rfl,N.fin m1 zo HE.out⟩
 .have HE:Hid (q0y s k ⟨y1,17,a,y4,y5,y6⟩=q8q s k ⟨y1,17,a,y4,y5,y6⟩ (if (qdy s.obs a).2=0/\(qdy s.obs a).1=false then 1 else (qdy s.obs a).2)):=by unfold Hid q0y;simp
  have hU:=λ(w:World) (o:Gh) (x:Cx) (N:Nw W w1 o1 pt c p s (1 + (8 + n)) w o x)=>N.oup (k:=a);generalize (qdy s.obs a).2=U2 at *;generalize (qdy s.obs a).1=U1 at *;replace hU:=zhd hU;go_wp2_with (first
   | (refine zD 6 λK' hK'=>?_;go_wp2_with fail;go_at_call 353;refine(hU.out _ _ _ N.dr).mono ?_;rintro _ w2 ⟨rfl,N⟩;refine zE ?_;clear hK' K');have lt:=N.lt;obtain⟨kc,lg⟩:=(kb.go N.M PaL.nd).1.cl;have h4:=N.R.c18
   | (go_at_call 354;refine(N.taken (y:=⟨_,_,_,_,_,_⟩) HK.out HY.out).mono ?_;rintro _ w3 ⟨rfl,_,_,N⟩))
  all_goals go_returns
  all_goals refine⟨rfl,N.fin m1 zo (HE.out.trans ?_)⟩
  all_goals (cases U1 <;> first | (simp[*];done) | (exfalso;revert ‹_=_›;simp))
end
end Go.Proofs.YtncfcbohiodnnaaGreat
