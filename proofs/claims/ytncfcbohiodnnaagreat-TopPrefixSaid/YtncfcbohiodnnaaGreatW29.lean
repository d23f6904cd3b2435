/- Parts of this seat's claims. -/
import Derived.Test.YtncfcbohiodnnaaGreatW28
set_option maxRecDepth 100000
set_option maxHeartbeats 6400000
namespace Go.Proofs.YtncfcbohiodnnaaGreat
open Go.RowKit
variable{w w' W wa wo W':World} {c n pt r B j b m mb q base cap id B0:Nat} {A:Option Addr} {a code what:Int} {cs:Array Value}
theorem qbk{s s':Ce} (hs:s.slk≠none) (h:q0p s=some s'):Ext 1 s s':=by
 unfold q0p at h;split at h
 .cases h
 .split at h
  .cases h
  .rename_i q;injection h with h
   rw[<- h];obtain⟨j,e,hj,_⟩:=qdj (s:=s) zo;rw[e,Int.toNat_natCast];exact((q7x hj hs).trans (q62 _ 0 _)).mono zo
theorem Ext.slk{s s':Ce} (h:Ext n s s') (hs:s.slk≠none):s'.slk≠none:=λq=>by
 have:=h.so;rw[q]at this
 obtain⟨y,hy⟩:=Option.ne_none_iff_exists'.1 hs;rw[hy]at this
 cases this
theorem qao:∀ (n:Nat) (s:Ce),s.slk≠none->Ext n s (q3u q0p n s)
 | 0,s,_=>Ext.refl s
 | n + 1,s,hs=>by
  unfold q3u;cases h:q0p s with
  | none=>exact(Ext.refl s).mono zo
  | some s' =>
   have e:=qbk hs h;exact(e.trans (qao n s' (e.slk hs))).mono zo
theorem q17{s:Ce} (hs:s.slk≠none):Ext (s.tk.length + 1) s (q2n s):=qao _ _ hs
theorem qkz(x:Sk) (i:Nat) (m:Int):(q21 x i m).2.has.length=x.has.length:=by unfold q21;split <;> simp
section
variable{W w0:World} {o0:Gh} {pt c p:Nat} {s:Ce} {n:Nat} {w:World} {o:Gh} {x:Cx}
theorem Nw.want(N:Nw W w0 o0 pt c p s n w o x):cP 188 #[pp c] w λe w'=>e = .returned (ii (q58 s))/\Nw W w0 o0 pt c p s n w' o x :=
 (qir N.R N.Y.l N.Y.h).mono λ_ _ h=>⟨h.1,N.blw h.2⟩
theorem Nw.next(N:Nw W w0 o0 pt c p s n w o x):cP 253 #[pp c] w λe w'=>e = .returned (ii (q06 s))/\Nw W w0 o0 pt c p s n w' o x :=
 (next_any N.R).mono λ_ _ h=>⟨h.1,N.blw h.2⟩
theorem Nw.next_j(N:Nw W w0 o0 pt c p s n w o x) {j:Nat} (h:q06 s=j):cP 253 #[pp c] w λe w'=>e = .returned (ii j)/\Nw W w0 o0 pt c p s n w' o x:=by rw[<- h];exact N.next
theorem Nw.spend(N:Nw W w0 o0 pt c p s n w o x) {b j:Nat} (hb:x.s=some b) (hj:j < s.tk.length) {m:Int} : cP 261 #[pp b,ii j,ii m] w λe w'=>e = .returned (ii (q21 s.sk j m).1)/\Nw W w0 o0 pt c p { s with slk:=some (q21 s.sk j m).2 } n w' o x:=by
 obtain⟨y,hy⟩:=Option.ne_none_iff_exists'.1 N.Y.sl;have S:=N.R.slkAt hy hb;have h0:s.sk=y:=by unfold Ce.sk;rw[hy];rfl
 have hh:=N.Y.h;rw[h0]at hh ⊢
 refine(qjk S.1 (i:=j) (n:=m) zo).mono ?_;rintro _ w' ⟨rfl,T,f⟩;have m1:=S.mv f;have m2:Mv (PaL pt) o w o w':=m1.mono (by rintro _ rfl;rfl);exact⟨rfl,N.M.trans m2,N.hx,⟨⟨N.Y.H.cf,N.Y.H.dp,N.Y.H.n8,N.Y.H.p8⟩,N.Y.B.go m2 PaL.nf,N.Y.l,zp,by show _<=(q21 y j m).2.has.length;rw[qkz];exact hh,N.Y.e,N.Y.d,⟨N.Y.z.p,N.Y.z.q,N.Y.z.l,N.Y.z.cq,N.Y.z.cl⟩,N.Y.pr⟩,N.R.setSk hy hb m1 T⟩
theorem Nw.rest2(N:Nw W w0 o0 pt c p s n w o x) {j:Nat} (hj:j < s.tk.length) (r:Int):Nw W w0 o0 pt c p (q1d s j { atD Tk0 s.tk j with rest:=r }) n (w.setCell ⟨atN x.tr.qs j,2,none⟩ (ii r)) o x:=by
 obtain⟨hp,hd,T⟩:=N.R.tk j hj;have m2:Mv (λy=>y = .task pt j) o w o (w.setCell ⟨atN x.tr.qs j,2,none⟩ (ii r)):=(Mv.refl (λy=>y = .task pt j) o w).setC (q:=atN x.tr.qs j) (λ_=>T.k.2) 2 _;exact N.zero.go (q5b rfl) m2 (by rintro _ rfl;rfl) rfl (N.R.setTk (hp:=hp) (hd:=hd) hj m2 ⟨T.k.set 2 (ii r),T.p.go m2 zp,T.pl,T.d.go m2 zp,T.dl,T.at_,T.n,T.a,T.dn⟩)
theorem Nw.tset2(N:Nw W w0 o0 pt c p s n w o x) {j:Nat} (hj:j < s.tk.length) {i:Nat} (hi:i<=1000000):cP 180 #[pp (atN x.tr.qs j),ii i] w λe w'=>e = .returned (.tuple #[])/\Nw W w0 o0 pt c p (q1d s j ((atD Tk0 s.tk j).set i)) n w' o x:=by
 obtain⟨hp,hd,T⟩:=N.R.tk j hj;refine(qo0 T zp hi).mono ?_;rintro _ w' ⟨rfl,m,T2⟩;exact⟨rfl,N.zero.go (q5b rfl) m (by rintro _ rfl;rfl) rfl (N.R.setTk hj m T2)⟩
theorem Nw.step_(N:Nw W w0 o0 pt c p s n w o x) {j:Nat} (hj:j < s.tk.length):cP 239 #[pp (atN x.tr.qs j)] w λe w'=>e = .returned (.agg (St.lw (atD Tk0 s.tk j).step))/\Nw W w0 o0 pt c p s n w' o x:=by
 obtain⟨hp,hd,T⟩:=N.R.tk j hj;exact(step_any T).mono λ_ _ h=>⟨h.1,N.blw h.2⟩
theorem Nw.stepOk(N:Nw W w0 o0 pt c p s n w o x) {j:Nat} (hj:j < s.tk.length):(atD Tk0 s.tk j).step.ok/\(atD Tk0 s.tk j).at_<=1000:=by
 obtain⟨hp,hd,T⟩:=N.R.tk j hj;refine⟨?_,by have:=T.at_;have:=T.n;omega⟩;unfold Tk.step;rw[q0s T.at_];exact T.p.2.1 _ (by rw[T.pl];exact List.getElem_mem T.at_)
theorem Nw.settle(N:Nw W w0 o0 pt c p s (9 + n) w o x):cP 249 #[pp c] w λe w'=>q6q W w0 o0 pt c p (q2n s) n (.tuple #[]) e w':=by
 have h8:=N.Y.H.n8;refine(qc1 N.R N.Y.H N.Y.B N.Y.l N.Y.d N.Y.sl N.Y.h (Nat.le_trans (Nat.le_add_right _ _) (Nat.le_trans N.Y.e zd))).mono λ_ _ h=>?_;exact N.aft ((q17 N.Y.sl).mono zo) h
theorem Nw.ran(N:Nw W w0 o0 pt c p s (12 + (9 + n)) w o x) {m:Int} : cP 192 #[pp c,ii m] w λe w'=>q6q W w0 o0 pt c p (qb3 s m) n (ii (if q5x s m < 1 then 0 else q5x s m)) e w':=by
 have lt:=N.lt;obtain⟨r,hr⟩:∃ r,r=min m (q58 s):=⟨_,rfl⟩
 have hR:q5x s m=r:=hr.symm;rw[hR];by_cases q:r < 1
 .have HE:Hid (qb3 s m=s):=by unfold Hid qb3;rw[hR,if_pos q]
  have HQ:=zhd q;rw[if_pos q];have b1:decide (min m (q58 s) < 1)=true:=by rw[<- hr];exact decide_eq_true q
  clear q hR hr;refine inC ?_;go_in;go_wp2_with (go_at_call 188;refine(N.want).mono ?_;rintro _ w2 ⟨rfl,N⟩);go_returns;exact⟨rfl,by rw[HE.out];exact(N.mono zo).now⟩
 .have hw:¬ q06 s < 0:=λh=>by
   have:q58 s=0:=if_pos h;omega
  obtain⟨_,⟨y,hy⟩,j,hj,hk⟩:=qdm (s:=s) zo;have h9:j < s.tk.length:=by rw[<- N.Y.l];exact hk
  have hE:qb3 s m=q2n (if (atD Tk0 (q0q s j r).tk j).rest=0 then q2o (q1d (q0q s j r) j ((atD Tk0 (q0q s j r).tk j).set ((atD Tk0 (q0q s j r).tk j).at_ + 1))) j (atD Tk0 (q0q s j r).tk j).step else q0q s j r):=by unfold qb3;rw[hR,if_neg q,hj];rfl
  rw[if_neg q];have b1:decide (min m (q58 s) < 1)=false:=by rw[<- hr];exact decide_eq_false q
  have HE:=zhd hE;have HJ:=zhd (And.intro hj h9);have HY:=zhd hy;have HR:=zhd hr;clear hE hw hj hk h9 hy q hR hr;refine inC ?_;go_in;go_upto_region 5 with (first
   | (go_at_call 188;refine(N.want).mono ?_;rintro _ w2 ⟨rfl,N⟩);have lt:=N.lt
   | (go_at_call 253;refine(N.next_j HJ.out.1).mono ?_;rintro _ w2 ⟨rfl,N⟩))
  rw[<- HR.out];have b2:decide (r < 1)=false:=by rw[HR.out];exact b1
  clear b1;have lt:=N.lt;have he:=N.R.c14;have hf:=N.R.c20;obtain⟨a,hA,hx,hv⟩:=N.R.task HJ.out.2;rw[hA]at he
  obtain⟨b,hb⟩:=N.R.slkOf HY.out;rw[hb]at hf
  have HB:=zhd hb;have h9:=HJ.out.2;obtain⟨s1,hn⟩:∃ s1:Ce,s1={ s with slk:=some (q21 s.sk j r).2 }:=⟨_,rfl⟩
  have h4:=zhd hn;clear hn hb hA;go_upto_region 8 with (go_at_call 261;refine(N.spend HB.out HJ.out.2).mono ?_;rintro _ w3 ⟨rfl,N⟩;have N:=N.eqS h4.out;obtain⟨hp,hd,T⟩:=N.R.tk j (by rw[h4.out];exact HJ.out.2);have tc:=T.k.1.cell;have tf:=T.k.1.frozen;have tl:=T.k.1.lt)
  have h8:j < s1.tk.length:=by rw[h4.out];exact HJ.out.2
  have ha:q0q s j r=q1d s1 j { atD Tk0 s1.tk j with rest:=wrap64 ((atD Tk0 s1.tk j).rest - r) }:=by rw[h4.out];rfl
  have N:=(N.rest2 h8 (wrap64 ((atD Tk0 s1.tk j).rest - r))).eqS ha;have hh:j < (q0q s j r).tk.length:=by rw[ha];simpa [q1d] using h8
  generalize w3.setCell ⟨atN x.tr.qs j,2,none⟩ (ii (wrap64 ((atD Tk0 s1.tk j).rest - r)))=w4 at N ⊢;generalize q0q s j r=s2 at *;have h3:=zhd hh;clear ha tc tf tl T h8 hh hv hx he hf h4;obtain⟨hp,hd,T⟩:=N.R.tk j h3.out;obtain⟨tc,tl⟩:=T.k.1.cl;have lt:=N.lt;by_cases h0:(atD Tk0 s2.tk j).rest=0
  .have b3:((atD Tk0 s2.tk j).rest == 0)=true:=by simpa using h0
   obtain⟨hm,hg⟩:=N.stepOk h3.out;have ht:=zhd hm;have hc:=zhd hg;have h6:=zhd (HE.out.trans (congrArg q2n (if_pos h0)));clear h0 HE hm hg;generalize hy:(atD Tk0 s2.tk j).step=yy at *;have hu:=zhd hy;clear hy;have h1:=λ(w:World) (o:Gh) (x:Cx) (N:Nw W w0 o0 pt c p s2 (12 + (9 + n)) w o x)=>N.step_ h3.out;rw[hu.out]at h1
   replace h1:=zhd h1;go_upto_region 10 with (go_at_call 239;refine(h1.out _ _ _ N).mono ?_;rintro _ w5 ⟨rfl,N⟩)
   obtain⟨o1,N,kb,m1⟩:=N.step yy;generalize w5.alloc (.cells (St.lw yy) 81)=w6 at *;generalize w5.heap.size=g at *;clear tc tl T h1;obtain⟨hp,hd,T⟩:=N.R.tk j h3.out;obtain⟨tc,tl⟩:=T.k.1.cl;obtain⟨kc,lg⟩:=kb.1.cl;have lt:=N.lt;have hw1:wrap64 (((atD Tk0 s2.tk j).at_:Int) + 1)=(((atD Tk0 s2.tk j).at_ + 1:Nat):Int):=by have:=hc.out;unfold wrap64;omega
   obtain⟨s3,h5⟩:∃ s3,s3=q1d s2 j ((atD Tk0 s2.tk j).set ((atD Tk0 s2.tk j).at_ + 1)):=⟨_,rfl⟩
   rw[<- h5]at h6
   have hs:Hid (j < s3.tk.length):=by rw[h5];simpa [q1d,Hid] using h3.out
   have HS3:=zhd h5;have hq:Hid ((atD Tk0 s2.tk j).at_ + 1<=1000000):=by have:=hc.out;show _<=_;omega
   have h2:=N.tset2 h3.out hq.out;rw[<- h5]at h2
   have h7:=zhd h2;clear h5 T h2;generalize (atD Tk0 s2.tk j).at_=at0 at *;go_wp2_with (first
    | (go_at_call 180;refine(h7.out).mono ?_;rintro _ w7 ⟨rfl,N⟩);have lt:=N.lt;obtain⟨kc,lg⟩:=(kb.go N.M PaL.nd).1.cl
    | (go_at_call 262;refine(N.call hs.out ht.out).mono ?_;rintro _ w8 ⟨rfl,_,_,N⟩);have lt:=N.lt
    | (go_at_call 249;refine(N.settle).mono ?_;rintro _ w5 ⟨rfl,_,_,N⟩))
   go_returns;exact⟨rfl,N.fin m1 zo h6.out⟩
  .have b3:((atD Tk0 s2.tk j).rest == 0)=false:=by simpa using h0
   have h6:=zhd (HE.out.trans (congrArg q2n (if_neg h0)));clear h0 HE;go_wp2_with (go_at_call 249;refine((N.mono (m:=9 + n) zo).settle).mono ?_;rintro _ w5 ⟨rfl,_,_,N⟩);go_returns;exact⟨rfl,N.fin (Mv.refl _ _ _) zo h6.out⟩
end
section
variable{w:World} {o:Gh} {pt p cap:Nat} {A:Option Addr} {qs:List Nat} {l:List Ps} (H:PsR w o pt p A cap qs l)
include H
theorem qhi{k:Int} :
  cP 265 #[pp p,ii k] w λe w'=>∃ (B:Option Addr) (c:Nat) (hs:List (Hd UInt8)) (o':Gh),e = .returned (.slice B hs.length c)/\hs.map Hd.l=(q0x l k).1/\Sl w' B hs.length c 1 (hs.map Hd.v)/\(∀ b f,0 < hs.length->B=some ⟨b,f,none⟩->o' b = .data\/∃ j:Nat,k=j/\o' b = .bx pt j)/\(∀ h ∈ hs,Dat w' o' h)/\Mv (λy=>∃ j:Nat,k=j/\y = .bx pt j) o w o' w'/\PsR w' o' pt p A cap qs (q0x l k).2:=by
 have hF:=q7o H (k:=k);by_cases h:q2r l k=true
 .rw[if_pos h]at hF
  obtain⟨j,rfl,hj⟩:=q0o h;rw[Int.toNat_natCast]at hF
  obtain⟨v,R⟩:=H.q j hj;obtain⟨ko,lo⟩:=R.k.1.cl;cases hin:(atD Ps0 l j).c.inn with
  | true =>
   have HE:=zhd (show q0x l j=([],l) by unfold q0x;rw[if_pos (.inr (by rw[Int.toNat_natCast];exact hin))]);rw[hin]at ko
   refine inC ?_;go_in;go_wp2_with (go_at_call 312;refine(hF).mono ?_;rintro _ _ ⟨rfl,rfl⟩);go_returns;rw[HE.out];exact⟨none,0,[],o,rfl,rfl,Sl.nil _ _,(λ_ _ h=>absurd h zp),(λh hh=>by cases hh),Mv.refl _ _ _,H⟩
  | false =>
   have hE:q0x l j=((qbe (atD Ps0 l j).box).1,l.set j { atD Ps0 l j with box:=(qbe (atD Ps0 l j).box).2 }):=by
    unfold q0x;rw[if_neg (by simp[h,hin]),Int.toNat_natCast]
   rw[hin]at ko
   have h0:Hid (∀ w' o' b,Mv (λy=>y = .bx pt j) o w o' w'->BxR w' o' (.bx pt j) v b->b.ok->PsR w' o' pt p A cap qs (l.set j { atD Ps0 l j with box:=b })):=λw' o' b m hx h1=>H.setB hj R m hx h1;have hset0:l.set j { atD Ps0 l j with box:=(atD Ps0 l j).box } = l:=qdc Ps0 l j hj;have hB:=R.b;have h1:=R.ok;generalize (atD Ps0 l j).box=X at *;cases X with
   | que m d =>
    obtain⟨q,A',c,hs,rfl,kq,ka,rfl,hd⟩:=hB;have ha:=λw=>qyp (some ⟨q,0,none⟩) w;have kc:=kq.1.cell;have kf:=kq.1.frozen;have lt:=kq.1.lt;have HE:=zhd hE;simp only[List.length_map]at kc;clear hE R;refine inC ?_;go_in;go_wp2_with (first | (go_at_call 312;refine(hF).mono ?_;rintro _ _ ⟨rfl,rfl⟩));go_returns;have m1:Mv (λy=>y = .bx pt j) o w o (w.setCell ⟨q,0,none⟩ (.slice none 0 0)):=Mv.setC (L:=λy=>y = .bx pt j) (Mv.refl _ o w) (q:=q) (λ_=>kq.2) 0 _;have h8:¬ q02 A' q:=ka.1.ne kq.1 zd;have h5:=ka.1.sl.fr ((Fr.refl (λk=>k=q) w).setCell (p:=⟨q,0,none⟩) (λ_=>rfl) (.slice none 0 0)) (λb f hn e hb=>h8 (by
     obtain⟨g,hg⟩:=ka.1.head hn;rw[hg]at e
     cases e;rw[hb]at hg
     exact hg))
    rw[HE.out];rw[List.length_map]at h5
    refine⟨A',c,hs,o,rfl,rfl,h5,λb f hn e => .inr ⟨j,rfl,?_⟩,λh hh=>(hd h hh).go m1 zp,m1.mono λ_ h=>⟨j,rfl,h⟩,h0.out _ o (.que [] d) m1 ⟨q,none,0,[],rfl,kq.set 0 _,⟨Own.nil _ _ _,λk hk=>by cases hk⟩,rfl,λh hh=>by cases hh⟩ ⟨h1.1,zp,λb hb=>by cases hb⟩⟩;obtain⟨g,hg⟩:=ka.1.head (by simpa using hn);have e2:=hg.symm.trans e;injection e2 with e2
    injection e2 with e2
    exact ka.2 b (by rw[<- e2];exact hg)
   | smp b th fr =>
    obtain⟨q,⟨hA,h3,hl⟩,rfl,kq,rfl,hd⟩:=hB;have ha:=λw=>qyq (some ⟨q,0,none⟩) w;have hta2:=λw=>qyr (some ⟨q,0,none⟩) w;have kc:=kq.1.cell;have kf:=kq.1.frozen;have lt:=kq.1.lt;have HE:=zhd hE;simp only[Hd.v]at kc;clear hE R;cases fr with
    | false =>
     refine inC ?_;go_in;go_wp2_with (first | (go_at_call 312;refine(hF).mono ?_;rintro _ _ ⟨rfl,rfl⟩));go_returns;rw[HE.out];refine⟨none,0,[],o,rfl,rfl,Sl.nil _ _,(λ_ _ h=>absurd h zp),(λh hh=>by cases hh),Mv.refl _ _ _,?_⟩;exact h0.out w o (.smp hl th false) (Mv.refl _ _ _) ⟨q,⟨hA,h3,hl⟩,rfl,kq,rfl,hd⟩ h1
    | true =>
     have m1:Mv (λy=>y = .bx pt j) o w o (w.setCell ⟨q,2,none⟩ (.bool false)):=Mv.setC (L:=λy=>y = .bx pt j) (Mv.refl _ o w) (q:=q) (λ_=>kq.2) 2 _;have h6:=kq.set 2 (.bool false);have kc1:=h6.1.cell;have h4:=hd.go m1 zp;have hC:=q2l h4.1 (by have:hl.length<=1000:=h1;show hl.length<=1000000;omega);simp only at hC;refine inC ?_;go_in;go_wp2_with (first | (go_at_call 312;refine(hF).mono ?_;rintro _ _ ⟨rfl,rfl⟩) | (go_at_call 98;refine hC.mono ?_;rintro _ w1 ⟨vA,vc,rfl,hc,he,h2⟩));go_returns;generalize w.setCell ⟨q,2,none⟩ (.bool false)=W0 at *;have h7:bW W0 (w1.alloc (.cells #[.slice vA hl.length vc] 38)):=h2.alloc h2.size _;have kx:=Blk.new w1 38 #[.slice vA hl.length vc];have m2:Mv (λ_=>False) o W0 (lay W0 o .data) (w1.alloc (.cells #[.slice vA hl.length vc] 38)):=Mv.lay (S:=λ_=>False) .data (fO h7 _) (λ_ _ h=>h.elim);have m3:=m1.trans (m2.mono λ_ h=>h.elim);have hf:=hc.keep (zA w1 (.cells #[.slice vA hl.length vc] 38));have h9:Sl (w1.alloc (.cells #[.slice vA hl.length vc] 38)) (some ⟨w1.heap.size,0,none⟩) 1 1 1 [.slice vA hl.length vc] :=
      ⟨zp,nL,by unfold maxLen;omega,(λe=>by cases e),λ_=>⟨_,0,rfl,kx.lt,λj u hu=>by rw[Nat.zero_add,kx.cell j];simpa using hu⟩⟩
     rw[HE.out];refine⟨_,1,[⟨vA,vc,hl⟩],lay W0 o .data,rfl,rfl,h9,λb f _ e => .inl ?_,λh hh=>?_,m3.mono λ_ h=>⟨j,rfl,h⟩,h0.out _ _ (.smp hl th false) m3 ⟨q,⟨hA,h3,hl⟩,rfl,h6.go m2 id,rfl,h4.go m2 id⟩ h1⟩
     .cases e;exact q07 h2.size
     .rw[List.mem_singleton.1 hh];exact⟨hf,λb f _ e=>q07 (he b f e)⟩
 .rw[if_neg h]at hF
  have HE:=zhd (show q0x l k=([],l) by unfold q0x;rw[if_pos (.inl (by simpa using h))]);refine inC ?_;go_in;go_wp2_with (go_at_call 312;refine(hF).mono ?_;rintro _ _ ⟨rfl,rfl⟩);go_returns;rw[HE.out];exact⟨none,0,[],o,rfl,rfl,Sl.nil _ _,(λ_ _ h=>absurd h zp),(λh hh=>by cases hh),Mv.refl _ _ _,H⟩
end
def CsR(w:World) (o:Gh) (c:Nat->Nat) (x:Nat->Cx) (cs:List Ce):Prop:=∀ q,q < cs.length->CeR w o q (c q) (x q) (atD Ce0 cs q)
def qft:Lb->Prop:=λl=>∃ q,PtL q l
theorem PtL.part{l:Lb} (h:PtL q l):l.part=some q:=by obtain⟨k,rfl | rfl⟩:=h <;> rfl
theorem qft.nd:¬ qft .data:=by rintro⟨q,h⟩;have:=h.part;simp[Lb.part]at this
theorem qft.nf:¬ qft .free:=by rintro⟨q,h⟩;have:=h.part;simp[Lb.part]at this
theorem qft.ns{i:Nat} : ¬ qft (.sys i):=by rintro⟨q,h⟩;have:=h.part;simp[Lb.part]at this
section
variable{L:Lb->Prop} {w w':World} {o o':Gh} {c:Nat->Nat} {x:Nat->Cx} {cs:List Ce}
theorem CsR.go(R:CsR w o c x cs) (m:Mv L o w o' w') (hl:∀ l,L l->l.part=none) (hd:¬ L .data):CsR w' o' c x cs:=λq hq=>(R q hq).go m (λl h=>by rw[hl l h];simp) hd
theorem CsR.blw(R:CsR w o c x cs) (hb:bW w w'):CsR w' o c x cs:=R.go (L:=λ_=>False) (Mv.below hb) (λ_ h=>h.elim) id
theorem CsR.set(R:CsR w o c x cs) {p:Nat} (hp:p < cs.length) (m:Mv L o w o' w') (hl:∀ l,L l->l.part=some p) {s':Ce} (R':CeR w' o' p (c p) (x p) s'):CsR w' o' c x (cs.set p s'):=λq hq=>by
 rw[List.length_set]at hq
 rw[Me.atD_set _ _ _ _ _ hp];by_cases e:q=p
 .subst e;rw[if_pos rfl];exact R'
 .rw[if_neg e];exact(R q hq).go m (λl h=>by rw[hl l h];simpa using λe'=>e e'.symm) (λh=>by have:=hl _ h;simp[Lb.part]at this)
theorem CsR.put(R:CsR w o c x cs) {p:Nat} (hp:p < cs.length) (m:Mv L o w o' w') (hl:∀ l,L l->l.part=some p) {x':Cx} {s':Ce} (R':CeR w' o' p (c p) x' s'):CsR w' o' c (λq=>if q=p then x' else x q) (cs.set p s'):=λq hq=>by
 rw[List.length_set]at hq
 rw[Me.atD_set _ _ _ _ _ hp];by_cases e:q=p
 .subst e;rw[if_pos rfl];simp only[if_true];exact R'
 .rw[if_neg e];simp only[if_neg e];exact(R q hq).go m (λl h=>by rw[hl l h];simpa using λe'=>e e'.symm) (λh=>by have:=hl _ h;simp[Lb.part]at this)
end
def qc7(x:Nat->Cx) (n:Nat):List Value:=(List.range n).map λq=>pp ((x q).p)
theorem qok{x:Nat->Cx} (h:Sl w A n c 1 (qc7 x n)) {q:Nat} (hq:q < n):∃ b f,A=some ⟨b,f,none⟩/\b < w.heap.size/\w.cell? ⟨b,f + q,none⟩=some (pp ((x q).p)):=by
 obtain⟨_,_,_,_,h5⟩:=h;obtain⟨b,f,e,hb,hc⟩:=h5 zo;exact⟨b,f,e,hb,hc q _ (by unfold qc7;simp[hq])⟩
structure Mh where
 chan:Int
 win:Int
 d:Hd UInt8
def Mh.f(m:Mh):List Value:=[ii m.chan,ii m.win,m.d.v]
def Mh.g(m:Mh):Mg:=⟨m.chan,m.win,m.d.l⟩
theorem qfu{o:Gh} {c:Nat->Nat} {x:Nat->Cx} {cs:List Ce} {cf:Cf} (hx:q54.ok w cf.chans) {pA:Option Addr} {pc:Nat} (hall:Sl w pA cs.length pc 1 (qc7 x cs.length)) (hln:Hid (cs.length<=1000)) (R:CsR w o c x cs) {m:Mh} (hm:Dat w o m.d) (hdl:m.d.l.length<=1000) :
  cP 199 #[.agg (Cf.lw cf),.agg #[ii m.chan,ii m.win,m.d.hq],.slice pA cs.length pc] w λe w'=>(∃ b,e = .returned (.bool b))/\∃ o',Mv qft o w o' w'/\CsR w' o' c x (q0v cf cs m.g):=by
 obtain⟨⟨y,r⟩,hr⟩:∃ yr,qnh cf m.chan=yr:=⟨_,rfl⟩
 have hE:q0v cf cs m.g=if r=false then cs else if y.to.part < 0\/(cs.length:Int)<=y.to.part then cs else cs.set y.to.part.toNat (setPts (atD Ce0 cs y.to.part.toNat) (q0u (atD Ce0 cs y.to.part.toNat).pts y.to.port m.d.l).2):=by
  unfold qnh at hr;unfold q0v;by_cases h:m.chan < 0\/(chN cf:Int)<=m.chan
  .rw[if_pos h]at hr
   cases hr;rw[if_pos rfl];exact if_pos h
  .rw[if_neg h]at hr
   cases hr;show(if m.chan < 0\/((chN cf:Nat):Int)<=m.chan then cs else _)=_;rw[if_neg h];exact(if_neg zp).symm
 have HE:=zhd hE;clear hE;have b0:bW w ((w.alloc (.cells (Cf.lw cf) 33)).alloc (.cells #[ii m.chan,ii m.win,m.d.hq] 122)):=zv;have kp:=(Blk.new w 33 (Cf.lw cf)).alloc (.cells #[ii m.chan,ii m.win,m.d.hq] 122);have km:=Blk.new (w.alloc (.cells (Cf.lw cf) 33)) 122 #[ii m.chan,ii m.win,m.d.hq];rw[World.size_alloc]at km
 have hF:=qk6 (q54.keep hx b0) hr;refine inC ?_;go_in;go_upto_region 1 with fail;generalize (w.alloc (.cells (Cf.lw cf) 33)).alloc (.cells #[ii m.chan,ii m.win,m.d.hq] 122)=w1 at *;obtain⟨gp,h5⟩:∃ gp,gp=w.heap.size:=⟨_,rfl⟩
 rw[<- h5]at kp km ⊢
 clear h5;obtain⟨cp,lp⟩:=kp.cl;obtain⟨cm,lm⟩:=km.cl;clear hr hx;go_upto_region 2 with ((go_at_call 267;refine(hF).mono ?_;rintro _ w2 ⟨rfl,h3⟩);have km:=km.keep h3;obtain⟨cm,lm⟩:=km.cl)
 have ky:=Blk.new w2 141 #[ii y.fr.part,ii y.fr.port,ii y.to.part,ii y.to.port];have b3:bW w2 (w2.alloc (.cells #[ii y.fr.part,ii y.fr.port,ii y.to.part,ii y.to.port] 141)):=zv;have km:=km.keep b3;generalize w2.alloc (.cells #[ii y.fr.part,ii y.fr.port,ii y.to.part,ii y.to.port] 141)=w3 at *;have h0:=zhd (bt (bt b0 h3) b3);clear b0 h3 b3 hF;generalize w2.heap.size=gy at *;obtain⟨cy,ly⟩:=ky.cl;obtain⟨cm,lm⟩:=km.cl;cases r with
 | false =>
  have h1:=zhd (HE.out.trans (if_pos rfl));clear HE;go_wp2_with fail;go_returns;exact⟨⟨_,rfl⟩,o,Mv.below h0.out,by rw[h1.out];exact R.blw h0.out⟩
 | true =>
  have hE:=HE.out.trans (if_neg zp);clear HE;by_cases q1:y.to.part < 0
  .have b1:decide (y.to.part < 0)=true:=decide_eq_true q1;have h1:=zhd (hE.trans (if_pos (.inl q1)));clear hE q1;go_wp2_with fail;go_returns;exact⟨⟨_,rfl⟩,o,Mv.below h0.out,by rw[h1.out];exact R.blw h0.out⟩
  .have b1:decide (y.to.part < 0)=false:=decide_eq_false q1;by_cases q2:(cs.length:Int)<=y.to.part
   .have b2:decide ((cs.length:Int)<=y.to.part)=true:=decide_eq_true q2;have h1:=zhd (hE.trans (if_pos (.inr q2)));clear hE q1 q2;go_wp2_with fail;go_returns;exact⟨⟨_,rfl⟩,o,Mv.below h0.out,by rw[h1.out];exact R.blw h0.out⟩
   .have b2:decide ((cs.length:Int)<=y.to.part)=false:=decide_eq_false q2;obtain⟨j,hj⟩:=Int.eq_ofNat_of_zero_le (show 0<=y.to.part by omega);have h2:=hE.trans (if_neg (by rintro(h | h);exact q1 h;exact q2 h));rw[hj]at cy b1 b2 q2 h2
    rw[Int.toNat_natCast]at h2
    have h4:j < cs.length:=zo;have b3:decide (cs.length<=j)=false:=decide_eq_false zo;have h1:=zhd h2;have HJ:=zhd h4;have HJ2:=zhd hj;have h7:=λ(w':World) (hb:bW w w')=>qfc ((R j h4).blw hb).ps (k:=y.to.port) (hm.go (L:=λ_=>False) (Mv.below hb) id).1 hdl;have h8:=zhd h7;obtain⟨pb,pf,h6,hpb,hpc⟩:=qok (hall.keep h0.out) h4;rw[h6];have hcn:cs.length<=1000:=hln.out;clear hE h2 q1 q2 hj h7 h6 hm hdl;go_wp2_with (refine zD 11 λK' hK'=>?_;go_wp2_with fail;go_at_call 268;refine(h8.out _ (bt h0.out bR.drew)).mono ?_;rintro _ w5 ⟨rfl,o5,m5,P5⟩;refine zE ?_;clear hK' K');go_returns;refine⟨⟨_,rfl⟩,o5,(Mv.below (bt h0.out bR.drew)).trans (m5.mono λ_ h=>⟨j,h⟩),?_⟩;rw[h1.out];exact(R.blw (bt h0.out bR.drew)).set HJ.out m5 (λ_ h=>h.part) (CeR.setPts ((R j HJ.out).blw (bt h0.out bR.drew)) m5 P5)
section
open Go.RowKit Go.Maps
def AmE(es:Array MapEntry) (l:List (Int×Value)):Prop:=es.toList.map (λe=>(e.key,e.val))=l.map (λp=>(ii p.1,p.2))
structure AmB(w:World) (mb:Nat) (l:List (Int×Value)):Prop where
 m:∃ es clock,w.heap[mb]?=some (.map es clock)/\AmE es l
 k:∀ p ∈ l,i64 p.1
 n:∀ a b v u,(a,v) ∈ l->(b,u) ∈ l->a=b->v=u
theorem AmB.fr{S:Nat->Prop} {l:List (Int×Value)} (h:AmB w mb l) (hf:Fr S w w') (hm:¬ S mb):AmB w' mb l:=by
 obtain⟨⟨es,c,h1,h2⟩,h3,h4⟩:=h;exact⟨⟨es,c,(hf.block mb (Array.getElem?_eq_some_iff.1 h1).1 hm).trans h1,h2⟩,h3,h4⟩
theorem AmB.lt{l:List (Int×Value)} (h:AmB w mb l):mb < w.heap.size:=by
 obtain⟨⟨es,c,h1,_⟩,_⟩:=h;exact(Array.getElem?_eq_some_iff.1 h1).1
theorem qol:Tryz.prog.underlying 351=some (.map 3 357):=zk
theorem qz8(w:World):AmB (w.alloc (.map #[] 0)) w.heap.size []:=⟨⟨#[],0,heap_alloc_new w _,rfl⟩,λp h=>(by cases h),λa b v u h=>(by cases h)⟩
theorem AmE.at_{es:Array MapEntry} {l:List (Int×Value)} (h:AmE es l) {e:MapEntry} (he:e ∈ es.toList):∃ p ∈ l,e.key=ii p.1/\e.val=p.2:=by
 have h1:(e.key,e.val) ∈ es.toList.map (λe=>(e.key,e.val)):=List.mem_map.2 ⟨e,he,rfl⟩;rw[h]at h1
 obtain⟨p,hp,hq⟩:=List.mem_map.1 h1;injection hq with h1 h2
 exact⟨p,hp,h1.symm,h2.symm⟩
theorem AmE.of{es:Array MapEntry} {l:List (Int×Value)} (h:AmE es l) {p:Int×Value} (hp:p ∈ l):∃ e ∈ es.toList,e.key=ii p.1/\e.val=p.2:=by
 have h1:((ii p.1:Value),p.2) ∈ l.map (λp=>((ii p.1:Value),p.2)):=List.mem_map.2 ⟨p,hp,rfl⟩;rw[<- h]at h1
 obtain⟨e,he,hq⟩:=List.mem_map.1 h1;injection hq with h1 h2
 exact⟨e,he,h1,h2⟩
theorem AmB.find{l:List (Int×Value)} (h:AmB w mb l) {es:Array MapEntry} (he:AmE es l) {k:Int} (hk:i64 k) :
  ((Instr.findKey 3 (ii k) es.toList).run Tryz.prog w = .ok none w/\∀ v,(k,v) ∉ l)\/∃ j v,(k,v) ∈ l/\(Instr.findKey 3 (ii k) es.toList).run Tryz.prog w = .ok (some (j,v)) w:=by
 have h0:∀ e ∈ es.toList,∃ x,keyOf Tryz.prog 3 e.key=some x:=λe hm=>by
  obtain⟨p,hp,h1,_⟩:=he.at_ hm;exact⟨_,by rw[h1];exact q34 (h.k p hp)⟩
 rcases(int_keyed q79).find w (q34 hk) es.toList h0 with ⟨h1,h2⟩ | ⟨j,e,h1,h2,h3⟩
 .refine .inl ⟨h1,λv hv=>?_⟩;obtain⟨e,hm,h4,_⟩:=he.of hv;exact h2 e hm h4
 .obtain⟨p,hp,e1,e2⟩:=he.at_ (List.mem_of_getElem? h2);rw[h3]at e1
  injection e1 with _ e1
  exact .inr ⟨j,e.val,by rw[e1,e2];exact hp,h1⟩
theorem qw7{l:List (Int×Value)} (h:AmB w mb l) {k:Int} {v:Value} (hk:(k,v) ∈ l) :
  (Instr.lookup 351 (.map (some mb)) (ii k) true).run Tryz.prog w = .ok (.tuple #[v,.bool true]) w:=by
 obtain⟨es,clock,hb,he⟩:=h.m;have hi:=h.k _ hk;rcases h.find he hi with ⟨_,h2⟩ | ⟨j,u,h1,h2⟩
 .exact absurd hk (h2 v)
 .obtain rfl:=h.n _ _ _ _ hk h1 rfl;simp[Instr.lookup,run_underlying qol,MapKept.run_getObj_map hb,(int_keyed q79).check w _ (q34 hi),h2,Result.andThen]
theorem qw8{l:List (Int×Value)} (h:AmB w mb l) {k:Int} (hi:i64 k) (hk:∀ v,(k,v) ∉ l) :
  (Instr.lookup 351 (.map (some mb)) (ii k) true).run Tryz.prog w = .ok (.tuple #[.slice none 0 0,.bool false]) w:=by
 obtain⟨es,clock,hb,he⟩:=h.m;rcases h.find he hi with ⟨h1,_⟩ | ⟨j,u,h1,_⟩
 .have hz:(zeroValue 357).run Tryz.prog w = .ok (.slice none 0 0) w:=zk;simp[Instr.lookup,run_underlying qol,MapKept.run_getObj_map hb,(int_keyed q79).check w _ (q34 hi),h1,hz,Result.andThen]
 .exact absurd h1 (hk u)
theorem qw9{l:List (Int×Value)} (h:AmB w mb l) {k:Int} (hi:i64 k) (hk:∀ v,(k,v) ∉ l) (v:Value) :
  ∃ w',(Instr.mapUpdate 351 (.map (some mb)) (ii k) v).run Tryz.prog w = .ok () w'/\AmB w' mb (l ++ [(k,v)])/\Fr (λk=>k=mb) w w':=by
 obtain⟨es,h0,hb,he⟩:=h.m;have h2:mb < w.heap.size:=(Array.getElem?_eq_some_iff.1 hb).1;rcases h.find he hi with ⟨h1,_⟩ | ⟨j,u,h1,_⟩;rotate_left
 .exact absurd h1 (hk u)
 refine⟨_,by simp[Instr.mapUpdate,run_underlying qol,MapKept.run_getObj_map hb,(int_keyed q79).check w _ (q34 hi),h1,MapKept.run_setObj_map _ hb,Result.andThen];rfl,⟨⟨es.push { key:=ii k,val:=v,born:=h0 },h0 + 1,?_,?_⟩,?_,?_⟩,qmj _ _ _⟩
 .simp[h2]
 .unfold AmE at he ⊢;rw[Array.toList_push,List.map_append,List.map_append,he];rfl
 .intro p hp;rcases List.mem_append.1 hp with hp | hp
  .exact h.k p hp
  .rw[List.mem_singleton.1 hp];exact hi
 .intro a b v1 v2 ha hb2 e;subst e;rcases List.mem_append.1 ha with ha | ha <;> rcases List.mem_append.1 hb2 with hb2 | hb2
  .exact h.n _ _ _ _ ha hb2 rfl
  .cases List.mem_singleton.1 hb2;exact absurd ha (hk v1)
  .cases List.mem_singleton.1 ha;exact absurd hb2 (hk v2)
  .cases List.mem_singleton.1 ha;cases List.mem_singleton.1 hb2;rfl
structure Dd where
 k:Int
 B:Option Addr
 c:Nat
 hs:List (Hd UInt8)
def Dd.p(s:Dd):Int×Value:=(s.k,.slice s.B s.hs.length s.c)
structure DdS(w:World) (o:Gh) (pt:Nat) (s:Dd):Prop where
 sl:Sl w s.B s.hs.length s.c 1 (s.hs.map Hd.v)
 lb:∀ b f,0 < s.hs.length->s.B=some ⟨b,f,none⟩->o b = .data\/∃ j:Nat,s.k=j/\o b = .bx pt j
 da:∀ h ∈ s.hs,Dat w o h
theorem DdS.go{L:Lb->Prop} {o o':Gh} {s:Dd} (h:DdS w o pt s) (m:Mv L o w o' w') (hd:¬ L .data) (hb:∀ j:Nat,s.k=j->¬ L (.bx pt j)):DdS w' o' pt s:=by
 have hl:∀ b f,0 < s.hs.length->s.B=some ⟨b,f,none⟩->b < w.heap.size:=λb f hn e=>by
  obtain⟨b',f',e',h0,_⟩:=h.sl.2.2.2.2 hn;rw[e]at e'
  cases e';exact h0
 refine⟨h.sl.fr m.f (λb f hn e hL=>?_),λb f hn e=>?_,λy hy=>(h.da y hy).go m hd⟩
 .rcases h.lb b f hn e with h1 | ⟨j,h1,h2⟩
  .rw[h1]at hL;exact hd hL
  .rw[h2]at hL;exact hb j h1 hL
 .rw[m.a b (hl b f hn e)];exact h.lb b f hn e
def Dd.s(s:Dd):Int×List (List UInt8):=(s.k,s.hs.map Hd.l)
def ofS(seen:List (Int×List (List UInt8))) (l:List Ps) (k:Int):List (List UInt8)×List (Int×List (List UInt8))×List Ps :=
 match seen.lookup k with
 | some bs=>(bs,seen,l)
 | none=>((q0x l k).1,seen ++ [(k,(q0x l k).1)],(q0x l k).2)
theorem qhj{α : Type} {l:List (Int×α)} {k:Int} {v : α} (h:l.lookup k=some v):(k,v) ∈ l:=by
 induction l with
 | nil=>simp at h
 | cons p l ih =>
  obtain⟨a,b⟩:=p;rw[List.lookup_cons]at h
  by_cases e:(k == a)=true
  .rw[e]at h
   simp only at h;cases h;simp only[beq_iff_eq]at e;subst e;simp
  .rw[Bool.not_eq_true]at e
   rw[e]at h
   exact List.mem_cons_of_mem _ (ih h)
theorem qhk{α : Type} {l:List (Int×α)} {k:Int} (h:l.lookup k=none) (v : α):(k,v) ∉ l:=by
 induction l with
 | nil=>simp
 | cons p l ih =>
  obtain⟨a,b⟩:=p;rw[List.lookup_cons]at h
  by_cases e:(k == a)=true
  .rw[e]at h;simp at h
  .rw[Bool.not_eq_true]at e
   rw[e]at h
   intro hm;rcases List.mem_cons.1 hm with hm | hm
   .cases hm;simp at e
   .exact ih h hm
structure DdR(w:World) (o:Gh) (pt p g mb:Nat) (A:Option Addr) (cap:Nat) (qs:List Nat) (ss:List Dd) (l:List Ps):Prop where
 k:Blk w g 353 #[pp p,.map (some mb)]
 lg:o g = .sys 10
 lm:o mb = .sys 9
 m:AmB w mb (ss.map Dd.p)
 d:∀ s ∈ ss,DdS w o pt s
 P:PsR w o pt p A cap qs l
 e:∀ a ∈ ss,∀ b ∈ ss,a.k=b.k->a=b
 n:∀ s ∈ ss,s.hs.length<=1000/\∀ h ∈ s.hs,h.l.length<=1000
theorem qsg{o:Gh} {p:Nat} {qs:List Nat} {l:List Ps} (P:PsR w o pt p A cap qs l) (k:Int):(q0x l k).1.length<=1000/\∀ b ∈ (q0x l k).1,b.length<=1000:=by
 unfold q0x;split
 .simp
 .rename_i h;have hh:q2r l k=true:=by
   cases e:q2r l k
   .exact absurd (.inl e) h
   .rfl
  obtain⟨j,rfl,hj⟩:=q0o hh;obtain⟨v,R⟩:=P.q j hj;have h0:=R.ok;rw[Int.toNat_natCast];generalize (atD Ps0 l j).box=X at *;cases X with
  | que m d=>exact⟨h0.2.1,h0.2.2⟩
  | smp b th fr =>
   cases fr with
   | true=>exact⟨by simp[qbe],λy hy=>by rw[show y=b by simpa [qbe] using hy];exact h0⟩
   | false=>simp[qbe]
theorem qwa{o:Gh} {p g:Nat} {qs:List Nat} {ss:List Dd} {l:List Ps} (D:DdR w o pt p g mb A cap qs ss l) {k:Int} (hk:i64 k) :
  cP 196 #[pp g,ii k] w λe w'=>∃ (s:Dd) (ss':List Dd) (o':Gh),e = .returned (.slice s.B s.hs.length s.c)/\s ∈ ss'/\s.hs.map Hd.l=(ofS (ss.map Dd.s) l k).1/\ss'.map Dd.s=(ofS (ss.map Dd.s) l k).2.1/\Mv (λy=>(∃ j:Nat,y = .bx pt j)\/y = .sys 9) o w o' w'/\DdR w' o' pt p g mb A cap qs ss' (ofS (ss.map Dd.s) l k).2.2:=by
 obtain⟨kc,lg⟩:=D.k.cl;cases hl:(ss.map Dd.s).lookup k with
 | some bs =>
  obtain⟨s,hs,he⟩:=List.mem_map.1 (qhj hl);have e1:s.k=k:=congrArg Prod.fst he;have e2:s.hs.map Hd.l=bs:=congrArg Prod.snd he;have hc:=λw' (hb:bW w w')=>qw7 (w:=w') ⟨(D.m.fr (fO hb (λ_=>False)) id).m,D.m.k,D.m.n⟩ (show(k,(.slice s.B s.hs.length s.c:Value)) ∈ ss.map Dd.p from List.mem_map.2 ⟨s,hs,by unfold Dd.p;rw[e1]⟩);have h1:=hc w bR;have HO:Hid (ofS (ss.map Dd.s) l k=(bs,ss.map Dd.s,l)):=by unfold ofS;rw[hl];rfl
  have HE:=zhd e2;have HS:=zhd hs;clear hc he e1 e2 hl;refine inC ?_;go_in;go_wp2_with fail;go_returns;refine⟨s,ss,o,rfl,HS.out,by rw[HO.out];exact HE.out,by rw[HO.out],Mv.refl _ _ _,by rw[HO.out];exact D⟩
 | none =>
  have h3:∀ s ∈ ss,s.k≠k:=λs hs e=>qhk hl (s.hs.map Hd.l) (List.mem_map.2 ⟨s,hs,by unfold Dd.s;rw[e]⟩);have h4:∀ v,(k,v) ∉ ss.map Dd.p:=λv hm=>by
   obtain⟨s,hs,he⟩:=List.mem_map.1 hm;exact h3 s hs (congrArg Prod.fst he)
  have h1:=qw8 D.m hk h4;have HO:Hid (ofS (ss.map Dd.s) l k=((q0x l k).1,ss.map Dd.s ++ [(k,(q0x l k).1)],(q0x l k).2)):=by unfold ofS;rw[hl];rfl
  have HK:=zhd h3;have HM:=zhd h4;have hq:=zhd hk;clear hl h3 h4 hk;refine inC ?_;go_in;go_upto_region 4 with ((go_at_call 265;refine(qhi D.P (k:=k)).mono ?_;rintro _ w2 ⟨B,c,hs,o2,rfl,hd,hg,h9,h7,m2,P2⟩))
  have hu:o2 g = .sys 10:=(m2.a g D.k.lt).trans D.lg;have hf:o2 mb = .sys 9:=(m2.a mb D.m.lt).trans D.lm;have h0:=D.k.fr m2.f (by rw[D.lg];rintro⟨j,_,h⟩;cases h);have h5:=D.m.fr m2.f (by rw[D.lm];rintro⟨j,_,h⟩;cases h);have h8:g≠mb:=λe=>by
   obtain⟨⟨es,cl,h,_⟩,_⟩:=h5;rw[<- e,h0]at h
   cases h
  have S2:DdS w2 o2 pt ⟨k,B,c,hs⟩:=⟨hg,h9,h7⟩
  have h6:∀ s ∈ ss,DdS w2 o2 pt s:=λs hs'=>(D.d s hs').go m2 (by rintro⟨j,_,h⟩;cases h) (λj hj=>by
   rintro⟨j',h1,h2⟩;injection h2 with _ h2
   exact HK.out s hs' (by rw[hj,h2,h1]))
  obtain⟨w3,hup,A3,f3⟩:=qw9 h5 hq.out HM.out (.slice B hs.length c);have m3:Mv (λy=>y = .sys 9) o2 w2 o2 w3:=Mv.of f3 λj hj=>by rw[hj];exact hf
  obtain⟨kc,lg⟩:=h0.cl;have HD:=zhd hd;have ht:=zhd S2;have hn:=zhd h6;have hh:=zhd A3;have hr:=zhd m2;have hp:=zhd (h0.fr f3 h8);clear hd hg h9 h7 S2 h6 A3 h5 h8 h1;go_wp2_with fail;go_returns;refine⟨⟨k,B,c,hs⟩,ss ++ [⟨k,B,c,hs⟩],o2,rfl,zp,by rw[HO.out];exact HD.out,?_,(hr.out.mono λy hy=>by obtain⟨j,_,h⟩:=hy;exact .inl ⟨j,h⟩).trans (m3.mono λy hy => .inr hy),hp.out,hu,hf,?_,λs hs'=>?_,?_,λa ha b hb e=>?_,λs hs'=>?_⟩
  .rw[HO.out,List.map_append,List.map_singleton];show _ ++ [(k,hs.map Hd.l)]=_;rw[HD.out]
  .rw[List.map_append,List.map_singleton];exact hh.out
  .rcases List.mem_append.1 hs' with h | h
   .exact(hn.out s h).go m3 zp (λj _=>by simp)
   .rw[List.mem_singleton.1 h];exact ht.out.go m3 zp (λj _=>by simp)
  .rw[HO.out];exact P2.go' m3 zp (λi _=>⟨zp,zp⟩) zp
  .rcases List.mem_append.1 ha with ha | ha <;> rcases List.mem_append.1 hb with hb | hb
   .exact D.e a ha b hb e
   .rw[List.mem_singleton.1 hb]at e;exact absurd e (HK.out a ha)
   .rw[List.mem_singleton.1 ha]at e;exact absurd e.symm (HK.out b hb)
   .rw[List.mem_singleton.1 ha,List.mem_singleton.1 hb]
  .rcases List.mem_append.1 hs' with h | h
   .exact D.n s h
   .rw[List.mem_singleton.1 h];have h2:=qsg D.P k;rw[<- HD.out]at h2
    exact⟨by simpa using h2.1,λy hy=>h2.2 _ (List.mem_map.2 ⟨y,hy,rfl⟩)⟩
end
end Go.Proofs.YtncfcbohiodnnaaGreat
