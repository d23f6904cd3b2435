/- Parts of this seat's claims. -/
import Derived.Test.YtncfcbohiodnnaaGreatW18
set_option maxRecDepth 100000
set_option maxHeartbeats 6400000
namespace Go.Proofs.YtncfcbohiodnnaaGreat
open Go.RowKit
variable{w w' W wa wo W':World} {c n pt r B j b m mb q base cap id B0:Nat} {A:Option Addr} {a code what:Int} {cs:Array Value}
def qk8(n:Nat) (k:Int):Bool:=decide (0<=k) && decide (k < n)
theorem qrn{k:Int} (h:qk8 n k=true):∃ j:Nat,k=j/\j < n:=by
 simp only[qk8,Bool.and_eq_true,decide_eq_true_eq]at h;obtain⟨j,rfl⟩:=Int.eq_ofNat_of_zero_le h.1;exact⟨j,rfl,zo⟩
section
variable{w:World} {o:Gh} {l:Lb} {x:Rx} {n:Nat}
def AtQ(F:FuncId) (w:World) (x:Rx) (n:Nat):Prop:=∀ {k:Int},cP F #[.agg #[.slice x.A n x.c],ii k] w λe w'=>e = .returned (.pointer (if qk8 n k=true then some ⟨atN x.qs k.toNat,0,none⟩ else none))/\bW w w'
theorem atM{t F N:Nat} {fn:Func} (H:qbj w o l t x n) (hF:Tryz.prog.funcs[F]?=some fn) (hN:fn.ntmps=N) (s:qbj w o l t x n->Tryz.prog.funcs[F]?=some fn->fn.ntmps=N->AtQ F w x n:=by
   intro H hF hN k;by_cases q:qk8 n k=true
   .rw[if_pos q];obtain⟨j,rfl,hj⟩:=qrn q;obtain⟨a,ha,hal,hac⟩:=H.at_ hj;rw[ha];have b1:decide ((j:Int) < 0)=false:=decide_eq_false zo;have b2:decide (n<=j)=false:=decide_eq_false zo;rw[Int.toNat_natCast];go_enter hF,hN;clear hF hN;go_wp2;go_returns;exact⟨rfl,zv⟩
   .rw[if_neg q];by_cases q0:k < 0
    .have b1:decide (k < 0)=true:=decide_eq_true q0;clear q;go_enter hF,hN;clear hF hN;go_wp2;go_returns;exact⟨rfl,zv⟩
    .have b1:decide (k < 0)=false:=decide_eq_false q0;have b2:decide ((n:Int)<=k)=true:=decide_eq_true (by simp[qk8]at q;omega);clear q q0;go_enter hF,hN;clear hF hN;go_wp2;go_returns;exact⟨rfl,zv⟩):AtQ F w x n:=s H hF hN
theorem z2c(H:qbj w o l 406 x n):AtQ 401 w x n:=atM H Tryz.func401 Tryz.ntmps401
theorem z2d(H:qbj w o l 409 x n):AtQ 400 w x n:=atM H Tryz.func400 Tryz.ntmps400
theorem z2e(H:qbj w o l 414 x n):AtQ 403 w x n:=atM H Tryz.func403 Tryz.ntmps403
theorem z2f(H:qbj w o l 419 x n):AtQ 402 w x n:=atM H Tryz.func402 Tryz.ntmps402
end
section
variable{w:World} {o:Gh} {pt p:Nat} {cf:Pt} {x:Ox} {y:Ob} (H:ObR w o pt p cf x y)
include H
theorem qig{k:Int} : cP 389 #[pp p,ii k] w λe w'=>e = .returned (.pointer (if q2r y.sems k=true then some ⟨atN x.s.qs k.toNat,0,none⟩ else none))/\bW w w':=by
 have kc:=H.k.1.cell;have hA:=z2c H.rs (k:=k);rw[show q2r y.sems k=qk8 y.sems.length k from rfl];refine inC ?_;go_in;generalize (if qk8 y.sems.length k=true then (some ⟨atN x.s.qs k.toNat,0,none⟩:Option Addr) else none)=R at *;go_wp2_with (refine uW hA ?_;rintro w1 ⟨hb,hs,hc,hf,hl,hB⟩);go_returns;exact⟨rfl,zv⟩
theorem qf8{k:Int} : cP 388 #[pp p,ii k] w λe w'=>e = .returned (.pointer (if q2r y.flags k=true then some ⟨atN x.f.qs k.toNat,0,none⟩ else none))/\bW w w':=by
 have kc:=H.k.1.cell;have hA:=z2d H.rf (k:=k);rw[show q2r y.flags k=qk8 y.flags.length k from rfl];refine inC ?_;go_in;generalize (if qk8 y.flags.length k=true then (some ⟨atN x.f.qs k.toNat,0,none⟩:Option Addr) else none)=R at *;go_wp2_with (refine uW hA ?_;rintro w1 ⟨hb,hs,hc,hf,hl,hB⟩);go_returns;exact⟨rfl,zv⟩
theorem qaf{k:Int} : cP 391 #[pp p,ii k] w λe w'=>e = .returned (.pointer (if q2r y.pools k=true then some ⟨atN x.p.qs k.toNat,0,none⟩ else none))/\bW w w':=by
 have kc:=H.k.1.cell;have hA:=z2e H.rp (k:=k);rw[show q2r y.pools k=qk8 y.pools.length k from rfl];refine inC ?_;go_in;generalize (if qk8 y.pools.length k=true then (some ⟨atN x.p.qs k.toNat,0,none⟩:Option Addr) else none)=R at *;go_wp2_with (refine uW hA ?_;rintro w1 ⟨hb,hs,hc,hf,hl,hB⟩);go_returns;exact⟨rfl,zv⟩
theorem q6d{k:Int} : cP 390 #[pp p,ii k] w λe w'=>e = .returned (.pointer (if q2r y.slates k=true then some ⟨atN x.l.qs k.toNat,0,none⟩ else none))/\bW w w':=by
 have kc:=H.k.1.cell;have hA:=z2f H.rl (k:=k);rw[show q2r y.slates k=qk8 y.slates.length k from rfl];refine inC ?_;go_in;generalize (if qk8 y.slates.length k=true then (some ⟨atN x.l.qs k.toNat,0,none⟩:Option Addr) else none)=R at *;go_wp2_with (refine uW hA ?_;rintro w1 ⟨hb,hs,hc,hf,hl,hB⟩);go_returns;exact⟨rfl,zv⟩
theorem ObR.blw(hb:bW w w'):ObR w' o pt p cf x y:=H.go (L:=λ_=>False) (Mv.below hb) id (λ_ _=>id) id
theorem qnr{k:Int} : cP 355 #[pp p,ii k] w λe w'=>e = .returned (ii (q2z y k).1)/\Mv (ObL pt) o w o w'/\ObR w' o pt p cf x (q2z y k).2:=by
 have hF:=qig H (k:=k);by_cases h:q2r y.sems k=true
 .obtain⟨j,rfl,hj⟩:=q0o h;rw[if_pos h,Int.toNat_natCast]at hF
  have K:=H.s j hj;have kc:=K.1.cell;have kf:=K.1.frozen;have lt:=K.1.lt;by_cases q:(atD Se0 y.sems j).n < 1
  .have HE:=zhd (show q2z y j=(1,y) by unfold q2z;rw[if_neg (by simp[h]),Int.toNat_natCast,if_pos q]);have b1:decide ((atD Se0 y.sems j).n < 1)=true:=decide_eq_true q;refine inC ?_;go_in;go_wp2_with (refine uW hF ?_;rintro w1 ⟨hb,hs,hc,hf,hl,hB⟩);go_returns;exact⟨q0w (by rw[HE.out]),Mv.below hb,by rw[HE.out];exact H.blw hb⟩
  .have HE:=zhd (show q2z y j=(0,{ y with sems:=y.sems.set j { atD Se0 y.sems j with n:=wrap64 ((atD Se0 y.sems j).n - 1) } }) by unfold q2z;rw[if_neg (by simp[h]),Int.toNat_natCast,if_neg q]);have b1:decide ((atD Se0 y.sems j).n < 1)=false:=decide_eq_false q;refine inC ?_;go_in;go_wp2_with (refine uW hF ?_;rintro w1 ⟨hb,hs,hc,hf,hl,hB⟩);go_returns;have m:=Mv.set1 hb K.2 2 (ii (wrap64 ((atD Se0 y.sems j).n - 1)));exact⟨q0w (by rw[HE.out]),m.mono (by rintro _ rfl;exact .inr ⟨_,_,rfl⟩),by rw[HE.out];exact H.setS hj m ((K.go (L:=λ_=>False) (Mv.below hb) id).set 2 _)⟩
 .rw[if_neg h]at hF
  have HE:=zhd (show q2z y k=(3,y) by unfold q2z;rw[if_pos (by simpa using h)]);refine inC ?_;go_in;go_wp2_with (refine uW hF ?_;rintro w1 ⟨hb,hs,hc,hf,hl,hB⟩);go_returns;exact⟨q0w (by rw[HE.out]),Mv.below hb,by rw[HE.out];exact H.blw hb⟩
theorem qns{k:Int} : cP 356 #[pp p,ii k] w λe w'=>e = .returned (ii (q30 y k).1)/\Mv (ObL pt) o w o w'/\ObR w' o pt p cf x (q30 y k).2:=by
 have hF:=qig H (k:=k);by_cases h:q2r y.sems k=true
 .obtain⟨j,rfl,hj⟩:=q0o h;rw[if_pos h,Int.toNat_natCast]at hF
  have K:=H.s j hj;by_cases q:(atD Se0 y.sems j).c.most<=(atD Se0 y.sems j).n
  .have HE:=zhd (show q30 y j=(6,y) by unfold q30;rw[if_neg (by simp[h]),Int.toNat_natCast,if_pos q]);have b1:decide ((atD Se0 y.sems j).c.most<=(atD Se0 y.sems j).n)=true:=decide_eq_true q;obtain⟨kc,lt⟩:=K.1.cl;refine inC ?_;go_in;go_wp2_with (refine uW hF ?_;rintro w1 ⟨hb,hs,hc,hf,hl,hB⟩);go_quiet (fail)
   have h0:=q19 hb nq;go_wp2_with fail;go_returns;exact⟨q0w (by rw[HE.out]),Mv.below h0,by rw[HE.out];exact H.blw h0⟩
  .have HE:=zhd (show q30 y j=(0,{ y with sems:=y.sems.set j { atD Se0 y.sems j with n:=wrap64 ((atD Se0 y.sems j).n + 1) } }) by unfold q30;rw[if_neg (by simp[h]),Int.toNat_natCast,if_neg q]);have b1:decide ((atD Se0 y.sems j).c.most<=(atD Se0 y.sems j).n)=false:=decide_eq_false q;obtain⟨kc,lt⟩:=K.1.cl;refine inC ?_;go_in;go_wp2_with (refine uW hF ?_;rintro w1 ⟨hb,hs,hc,hf,hl,hB⟩);go_quiet (fail)
   have h0:=q19 hb nq;have K2:=K.go (L:=λ_=>False) (Mv.below h0) id;generalize w1.drewN nq=w2 at *;clear kc lt hc hf hl hB;have kc:=K2.1.cell;have kf:=K2.1.frozen;have lt:=K2.1.lt;go_wp2_with fail;go_returns;have m:=Mv.set1 h0 K.2 2 (ii (wrap64 ((atD Se0 y.sems j).n + 1)));exact⟨q0w (by rw[HE.out]),m.mono (by rintro _ rfl;exact .inr ⟨_,_,rfl⟩),by rw[HE.out];exact H.setS hj m (K2.set 2 _)⟩
 .rw[if_neg h]at hF
  have HE:=zhd (show q30 y k=(3,y) by unfold q30;rw[if_pos (by simpa using h)]);refine inC ?_;go_in;go_wp2_with (refine uW hF ?_;rintro w1 ⟨hb,hs,hc,hf,hl,hB⟩);go_returns;exact⟨q0w (by rw[HE.out]),Mv.below hb,by rw[HE.out];exact H.blw hb⟩
theorem qf9{k:Int} {u:Bool} : cP 357 #[pp p,ii k,.bool u] w λe w'=>e = .returned (ii (q29 y k u).1)/\Mv (ObL pt) o w o w'/\ObR w' o pt p cf x (q29 y k u).2:=by
 have hF:=qf8 H (k:=k);by_cases h:q2r y.flags k=true
 .obtain⟨j,rfl,hj⟩:=q0o h;rw[if_pos h,Int.toNat_natCast]at hF
  have K:=H.f j hj;have kc:=K.1.cell;have kf:=K.1.frozen;have lt:=K.1.lt;have HE:=zhd (show q29 y j u=(0,{ y with flags:=y.flags.set j u }) by unfold q29;rw[if_neg (by simp[h]),Int.toNat_natCast]);refine inC ?_;go_in;go_wp2_with (refine uW hF ?_;rintro w1 ⟨hb,hs,hc,hf,hl,hB⟩);go_returns;have m:=Mv.set1 hb K.2 0 (.bool u);exact⟨q0w (by rw[HE.out]),m.mono (by rintro _ rfl;exact .inr ⟨_,_,rfl⟩),by rw[HE.out];exact H.setF hj m ((K.go (L:=λ_=>False) (Mv.below hb) id).set 0 _)⟩
 .rw[if_neg h]at hF
  have HE:=zhd (show q29 y k u=(3,y) by unfold q29;rw[if_pos (by simpa using h)]);refine inC ?_;go_in;go_wp2_with (refine uW hF ?_;rintro w1 ⟨hb,hs,hc,hf,hl,hB⟩);go_returns;exact⟨q0w (by rw[HE.out]),Mv.below hb,by rw[HE.out];exact H.blw hb⟩
theorem qvq{k:Int} : cP 353 #[pp p,ii k] w λe w'=>e = .returned (.tuple #[.bool (qdy y k).1,ii (qdy y k).2])/\bW w w':=by
 have hF:=qf8 H (k:=k);by_cases h:q2r y.flags k=true
 .obtain⟨j,rfl,hj⟩:=q0o h;rw[if_pos h,Int.toNat_natCast]at hF
  have K:=H.f j hj;obtain⟨kc,lt⟩:=K.1.cl;have HE:=zhd (show qdy y j=(atD false y.flags j,0) by unfold qdy;rw[if_neg (by simp[h]),Int.toNat_natCast]);refine inC ?_;go_in;go_wp2_with (refine uW hF ?_;rintro w1 ⟨hb,hs,hc,hf,hl,hB⟩);go_returns;exact⟨by rw[HE.out];rfl,hb⟩
 .rw[if_neg h]at hF
  have HE:=zhd (show qdy y k=(false,3) by unfold qdy;rw[if_pos (by simpa using h)]);refine inC ?_;go_in;go_wp2_with (refine uW hF ?_;rintro w1 ⟨hb,hs,hc,hf,hl,hB⟩);go_returns;exact⟨by rw[HE.out];rfl,hb⟩
end
theorem qro{o:Gh} {lb:Lb} {h:Hd UInt8} {th fr:Bool} (kq:q1t w o lb q 402 #[h.v,.bool th,.bool fr])
  {bA:Option Addr} {bn bc:Nat} {b:List UInt8} (hb:SlB w bA bn bc b) (hbn:b.length<=1000) :
  cP 429 #[pp q,.slice bA bn bc] w λe w'=>e = .returned (.bool true)/\∃ o',Mv (λy=>y=lb) o w o' w'/\BxR w' o' lb (.iface 400 (pp q)) (.smp b true true):=by
 have kc:=kq.1.cell;have kf:=kq.1.frozen;have lt:=kq.1.lt;have hC:=q2l hb zo;refine inC ?_;go_in;go_wp2_with (go_at_call 98;refine hC.mono ?_;rintro _ w1 ⟨vA,vc,rfl,h4,h1,h0⟩;have kc1:=(kq.1.keep h0).cell;have kf1:=(kq.1.keep h0).frozen);go_returns;have h2:=hb.2;subst h2;have m1:Mv (λy=>y=lb) o w (lay w o .data) w1:=Mv.lay (S:=λ_=>False) .data (fO h0 _) (λ_ _ h=>h.elim);have k1:q1t w1 (lay w o .data) lb q 402 #[h.v,.bool th,.bool fr]:=⟨kq.1.keep h0,(q0l lt).trans kq.2⟩
 have m2:=((m1.setC (λ_=>kq.2) 0 (.slice vA b.length vc)).setC (λ_=>kq.2) 1 (.bool true)).setC (λ_=>kq.2) 2 (.bool true);have k2:=((k1.set 0 (.slice vA b.length vc)).set 1 (.bool true)).set 2 (.bool true);have h3:∀ b0 f0,vA=some ⟨b0,f0,none⟩->b0≠q:=λb0 f0 e=>by have:=h1 b0 f0 e;omega
 have hs:=h4.fr ((((Fr.refl (λk=>k=q) w1).setCell (p:=⟨q,0,none⟩) (λ_=>rfl) (.slice vA b.length vc)).setCell (p:=⟨q,1,none⟩) (λ_=>rfl) (.bool true)).setCell (p:=⟨q,2,none⟩) (λ_=>rfl) (.bool true)) (λb0 f0 _ e=>h3 b0 f0 e);exact⟨rfl,_,m2,q,⟨vA,vc,b⟩,rfl,k2,rfl,hs,λb0 f0 _ e=>q07 (h1 b0 f0 e)⟩
theorem qih{l:List Ps} {k:Int} {q i:Bool} (h:qa8 l k q i=true):q2r l k=true/\(atD Ps0 l k.toNat).c.q=q/\(atD Ps0 l k.toNat).c.inn=i:=by
 simp only[qa8,Bool.and_eq_true,beq_iff_eq]at h;exact⟨h.1.1,h.1.2,h.2⟩
theorem qnt(m:List (List UInt8)) (d:Int) (b:List UInt8):q39 (.que m d) b=if d<=m.length then (.que m d,false) else (.que (m ++ [b]) d,true):=rfl
theorem qii{x:Bx} {b:List UInt8} (h:(q39 x b).2=false):(q39 x b).1=x:=by
 cases x with
 | que m d =>
  rw[qnt]at h ⊢
  by_cases q:d<=m.length
  .rw[if_pos q]
  .rw[if_neg q]at h;cases h
 | smp=>cases h
theorem qdc{α : Type} (d : α) (l:List α) (j:Nat) (hj:j < l.length):l.set j (atD d l j)=l:=by
 rw[q0s hj,List.set_getElem_self]
theorem qij{x:Bx} {b:List UInt8} (h:x.ok) (hb:b.length<=1000):(q39 x b).1.ok:=by
 cases x with
 | que m d =>
  rw[qnt];obtain⟨h1,h2,h3⟩:=h;by_cases q:d<=m.length
  .rw[if_pos q];exact⟨h1,h2,h3⟩
  .rw[if_neg q];refine⟨h1,by simp;omega,λy hy=>?_⟩;rcases List.mem_append.1 hy with hy | hy
   .exact h3 y hy
   .rw[List.mem_singleton.1 hy];exact hb
 | smp=>exact hb
theorem qrp{x:Bx} (h:(q3a x).2.1=false):(q3a x).2.2=x:=by
 cases x with
 | que m d =>
  cases m with
  | nil=>rfl
  | cons b r=>cases h
 | smp=>rfl
theorem qrq{x:Bx} (h:x.ok):(q3a x).2.2.ok/\(q3a x).1.length<=1000:=by
 cases x with
 | que m d =>
  obtain⟨h1,h2,h3⟩:=h;cases m with
  | nil=>exact⟨⟨h1,zp,λb hb=>by cases hb⟩,by simp[q3a]⟩
  | cons b r=>exact⟨⟨h1,by simp at h2 ⊢;omega,λy hy=>h3 y (List.mem_cons_of_mem _ hy)⟩,h3 b (List.mem_cons_self ..)⟩
 | smp b th fr=>exact⟨h,h⟩
theorem qik{o:Gh} {lb:Lb} {v:Value} {x:Bx} (H:BxR w o lb v x) (hok:x.ok) (hld:lb ≠ .data)
  {bA:Option Addr} {bn bc:Nat} {b:List UInt8} (hb:SlB w bA bn bc b) (hbn:b.length<=1000) :
  (∃ q,v = .iface 397 (pp q)/\cP 427 #[pp q,.slice bA bn bc] w λe w'=>e = .returned (.bool (q39 x b).2)/\∃ o',Mv (λy=>y=lb) o w o' w'/\BxR w' o' lb v (q39 x b).1) \/
  (∃ q,v = .iface 400 (pp q)/\cP 429 #[pp q,.slice bA bn bc] w λe w'=>e = .returned (.bool (q39 x b).2)/\∃ o',Mv (λy=>y=lb) o w o' w'/\BxR w' o' lb v (q39 x b).1):=by
 cases x with
 | que m d =>
  obtain⟨q,A,c,hs,rfl,kq,ka,hm,hd⟩:=H;exact .inl ⟨q,rfl,qrm kq ka hm hd hok.2.1 hld hb hbn⟩
 | smp b' th fr =>
  obtain⟨q,h,rfl,kq,hl,hd⟩:=H;exact .inr ⟨q,rfl,qro kq hb hbn⟩
theorem qyp(q:Option Addr) (w:World):(Instr.typeAssert (.iface 397 (.pointer q)) 321 397 true).run Tryz.prog w = .ok (.tuple #[.pointer q,.bool true]) w:=zk
theorem qyq(q:Option Addr) (w:World):(Instr.typeAssert (.iface 400 (.pointer q)) 321 397 true).run Tryz.prog w = .ok (.tuple #[.pointer none,.bool false]) w:=zk
theorem qyr(q:Option Addr) (w:World):(Instr.typeAssert (.iface 400 (.pointer q)) 321 400 true).run Tryz.prog w = .ok (.tuple #[.pointer q,.bool true]) w:=zk
theorem qk9{o:Gh} {g:Nat} {v:Value} {x:Ps} (R:PoR w o pt j g v x) :
  cP 380 #[pp g] w λe w'=>∃ (hA:Option Addr) (hc:Nat) (o':Gh),e = .returned (.tuple #[.slice hA (q3a x.box).1.length hc,.bool (q3a x.box).2.1])/\Dat w' o' ⟨hA,hc,(q3a x.box).1⟩/\Mv (λy=>y = .bx pt j) o w o' w'/\BxR w' o' (.bx pt j) v (q3a x.box).2.2:=by
 obtain⟨ko,lo⟩:=R.k.1.cl;have hB:=R.b;have h6:=R.ok;obtain⟨xc,X,xl⟩:=x;simp only at *;cases X with
 | que m d =>
  obtain⟨q,A',c,hs,rfl,kq,ka,hm,hd⟩:=hB;have hT:=qnp kq ka hm hd h6.2.1 zp;generalize q3a (.que m d)=Y at *;have h7:=λw=>qyp (some ⟨q,0,none⟩) w;refine inC ?_;go_in;go_wp2_with (go_at_call 395;refine hT.mono ?_;rintro _ w1 ⟨⟨hA,h1,rfl,h2⟩,h3,h4⟩);go_returns;exact⟨hA,h1,o,rfl,h2,h3,h4⟩
 | smp b th fr =>
  obtain⟨q,⟨hA,h1,hl⟩,rfl,kq,rfl,hd⟩:=hB;obtain⟨kc,lt⟩:=kq.1.cl;have h5:=(Below.refl w.heap.size w).drew;have hC:=q2l (hd.1.keep h5) (by have:=h6;unfold Bx.ok at this;omega);have h7:=λw=>qyq (some ⟨q,0,none⟩) w;have hta2:=λw=>qyr (some ⟨q,0,none⟩) w;simp only[Hd.v]at kc;refine inC ?_;go_in;go_wp2_with fail;refine zW [(4,0)] λK' hK'=>?_;go_wp2_with fail;refine hC.mono ?_;rintro _ w3 ⟨vA,vc,rfl,h8,h9,h0⟩;replace h0:bW w w3:=h5.trans h0;refine zGZ (fO h0 _) ?_;clear hK' K';go_wp2_with fail;go_returns;have m1:Mv (λy=>y = .bx pt j) o w (lay w o .data) w3:=Mv.lay (S:=λ_=>False) .data (fO h0 _) (λ_ _ h=>h.elim);exact⟨vA,vc,_,rfl,⟨h8,λb f _ e=>q07 (h9 b f e)⟩,m1,q,⟨hA,h1,hl⟩,rfl,⟨kq.1.keep h0,(m1.a q lt).trans kq.2⟩,rfl,⟨hd.1.keep h0,λb f hn e=>(m1.a b (hd.1.lt_ hn e)).trans (hd.2 b f hn e)⟩⟩
section
variable{w:World} {o:Gh} {pt p cap:Nat} {A:Option Addr} {qs:List Nat} {l:List Ps} (H:PsR w o pt p A cap qs l)
include H
theorem PsR.blw(hb:bW w w'):PsR w' o pt p A cap qs l:=H.go (L:=λ_=>False) (Mv.below hb) id (λ_=>id) (λ_=>id) id
theorem PsR.setB{o':Gh} {v:Value} {b:Bx} (hj:j < l.length) (R:PoR w o pt j (atN qs j) v (atD Ps0 l j)) (m:Mv (λy=>y = .bx pt j) o w o' w') (hb:BxR w' o' (.bx pt j) v b) (hk:b.ok):PsR w' o' pt p A cap qs (l.set j { atD Ps0 l j with box:=b }) :=
 H.set hj (m.mono λ_ h => .inr h) ⟨R.k.go m zp,hb,hk,R.d⟩
theorem qfa{k:Int} {q:Bool} {bA:Option Addr} {bn bc:Nat} {b:List UInt8} (hb:SlB w bA bn bc b) (hbn:b.length<=1000) :
  cP 330 #[pp p,ii k,.bool q,.slice bA bn bc] w λe w'=>e = .returned (ii (q10 l k q b).1)/\∃ o',Mv (PtL pt) o w o' w'/\PsR w' o' pt p A cap qs (q10 l k q b).2:=by
 have hC:=qdb H (k:=k) (q:=q) (inn:=false);have h5:=hb.2;subst h5;by_cases h:qa8 l k q false=true
 .rw[h]at hC
  obtain⟨j,rfl,hj⟩:=q0o (qih h).1;obtain⟨v,R⟩:=H.q j hj;have kc:=H.k.1.cell;have ko:=R.k.1.cell;obtain⟨a,ha,hal,hac⟩:=H.at_ hj;rw[ha]at kc
  clear ha;have hE:q10 l j q b=if b.length < 1\/(atD Ps0 l j).c.size < b.length then (2,l) else if (q39 (atD Ps0 l j).box b).2=false then (1,l) else (0,l.set j { atD Ps0 l j with box:=(q39 (atD Ps0 l j).box b).1 }):=by
   unfold q10;rw[if_neg (by simp[h]),Int.toNat_natCast]
  by_cases q1:b.length < 1
  .have HE:=zhd (hE.trans (if_pos (.inl q1)));have b1:decide ((b.length:Int) < 1)=true:=decide_eq_true zo;clear hE q1;refine inC ?_;go_in;go_wp2_with (go_at_call 346;refine(hC).mono ?_;rintro _ _ ⟨rfl,rfl⟩);go_returns;exact⟨q0w (by rw[HE.out]),o,Mv.refl _ _ _,by rw[HE.out];exact H⟩
  .have b1:decide ((b.length:Int) < 1)=false:=decide_eq_false zo;by_cases q2:(atD Ps0 l j).c.size < b.length
   .have HE:=zhd (hE.trans (if_pos (.inr q2)));have b2:decide ((atD Ps0 l j).c.size < (b.length:Int))=true:=decide_eq_true q2;clear hE q1 q2;refine inC ?_;go_in;go_wp2_with (go_at_call 346;refine(hC).mono ?_;rintro _ _ ⟨rfl,rfl⟩);go_returns;exact⟨q0w (by rw[HE.out]),o,Mv.refl _ _ _,by rw[HE.out];exact H⟩
   .rw[if_neg (by rintro(h | h);exact q1 h;exact q2 h)]at hE
    have b2:decide ((atD Ps0 l j).c.size < (b.length:Int))=false:=decide_eq_false q2;have HE:=zhd hE;clear hE q1 q2;have h4:=qij (b:=b) R.ok hbn;have hP:=qik R.b R.ok zp hb hbn;have h6:=qii (x:=(atD Ps0 l j).box) (b:=b);generalize q39 (atD Ps0 l j).box b=X at *;obtain⟨X1,X2⟩:=X;have h3:Hid (∀ w' o',Mv (λy=>y = .bx pt j) o w o' w'->BxR w' o' (.bx pt j) v X1->X2=true->(0:Int)=(q10 l j q b).1/\∃ o',Mv (PtL pt) o w o' w'/\PsR w' o' pt p A cap qs (q10 l j q b).2):=λw' o' m hx e=>by
     rw[HE.out.trans (if_neg (by simp[e]))];exact⟨rfl,o',m.mono λ_ h=>⟨j,.inr h⟩,H.setB hj R m hx h4⟩
    have h0:Hid (∀ w' o',Mv (λy=>y = .bx pt j) o w o' w'->BxR w' o' (.bx pt j) v X1->X2=false->(1:Int)=(q10 l j q b).1/\∃ o',Mv (PtL pt) o w o' w'/\PsR w' o' pt p A cap qs (q10 l j q b).2):=λw' o' m hx e=>by
     rw[HE.out.trans (if_pos (by simp[e]))];refine⟨rfl,o',m.mono λ_ h=>⟨j,.inr h⟩,?_⟩;have:=H.setB hj R m hx h4;rwa [show X1=(atD Ps0 l j).box from h6 e,qdc Ps0 l j hj]at this
    clear HE;rcases hP with ⟨g,rfl,hP⟩ | ⟨g,rfl,hP⟩
    .refine inC ?_;go_in;go_wp2_with (first | (go_at_call 346;refine(hC).mono ?_;rintro _ _ ⟨rfl,rfl⟩) | (go_at_call 427;refine hP.mono ?_;rintro _ w1 ⟨rfl,o',m,hx⟩))
     all_goals (rename_i hx2;go_returns;first | (obtain⟨h1,h2⟩:=h3.out w1 o' m hx (by simpa using hx2);exact⟨q0w h1,h2⟩) | (obtain⟨h1,h2⟩:=h0.out w1 o' m hx (by simpa using hx2);exact⟨q0w h1,h2⟩))
    .refine inC ?_;go_in;go_wp2_with (first | (go_at_call 346;refine(hC).mono ?_;rintro _ _ ⟨rfl,rfl⟩) | (go_at_call 429;refine hP.mono ?_;rintro _ w1 ⟨rfl,o',m,hx⟩))
     all_goals (rename_i hx2;go_returns;first | (obtain⟨h1,h2⟩:=h3.out w1 o' m hx (by simpa using hx2);exact⟨q0w h1,h2⟩) | (obtain⟨h1,h2⟩:=h0.out w1 o' m hx (by simpa using hx2);exact⟨q0w h1,h2⟩))
 .have hE:q10 l k q b=(3,l):=by unfold q10;rw[if_pos (by simpa using h)]
  have HE:=zhd hE;rw[show qa8 l k q false=false by simpa using h]at hC
  clear hE h;refine inC ?_;go_in;go_wp2_with (go_at_call 346;refine(hC).mono ?_;rintro _ _ ⟨rfl,rfl⟩);go_returns;exact⟨q0w (by rw[HE.out]),o,Mv.refl _ _ _,by rw[HE.out];exact H⟩
theorem qfb{k:Int} {bA:Option Addr} {bn bc:Nat} {b:List UInt8} (hb:SlB w bA bn bc b) (hbn:b.length<=1000) :
  cP 291 #[pp p,ii k,.slice bA bn bc] w λe w'=>e = .returned (ii (q10 l k true b).1)/\∃ o',Mv (PtL pt) o w o' w'/\PsR w' o' pt p A cap qs (q10 l k true b).2:=by
 have hP:=qfa H (k:=k) (q:=true) hb hbn;refine inC ?_;go_in;go_wp2_with (go_at_call 330;refine hP.mono ?_;rintro _ w1 ⟨rfl,hR⟩);go_returns;exact⟨rfl,hR⟩
theorem qka{k:Int} {bA:Option Addr} {bn bc:Nat} {b:List UInt8} (hb:SlB w bA bn bc b) (hbn:b.length<=1000) :
  cP 351 #[pp p,ii k,.slice bA bn bc] w λe w'=>e = .returned (ii (q10 l k false b).1)/\∃ o',Mv (PtL pt) o w o' w'/\PsR w' o' pt p A cap qs (q10 l k false b).2:=by
 have hP:=qfa H (k:=k) (q:=false) hb hbn;refine inC ?_;go_in;go_wp2_with (go_at_call 330;refine hP.mono ?_;rintro _ w1 ⟨rfl,hR⟩);go_returns;exact⟨rfl,hR⟩
theorem qil{k:Int} {q:Bool} :
  cP 332 #[pp p,ii k,.bool q] w λe w'=>∃ (hA:Option Addr) (hc:Nat) (o':Gh),e = .returned (.tuple #[.slice hA (q44 l k q).1.length hc,ii (q44 l k q).2.1])/\Dat w' o' ⟨hA,hc,(q44 l k q).1⟩/\(q44 l k q).1.length<=1000/\Mv (PtL pt) o w o' w'/\PsR w' o' pt p A cap qs (q44 l k q).2.2:=by
 have hC:=qdb H (k:=k) (q:=q) (inn:=true);by_cases h:qa8 l k q true=true
 .rw[h]at hC
  obtain⟨j,rfl,hj⟩:=q0o (qih h).1;obtain⟨v,R⟩:=H.q j hj;have kc:=H.k.1.cell;obtain⟨a,ha,hal,hac⟩:=H.at_ hj;rw[ha]at kc
  clear ha;have hE:q44 l j q=if (q3a (atD Ps0 l j).box).2.1=false then ([],1,l) else ((q3a (atD Ps0 l j).box).1,0,l.set j { atD Ps0 l j with box:=(q3a (atD Ps0 l j).box).2.2 }):=by
   unfold q44;rw[if_neg (by simp[h]),Int.toNat_natCast]
  have hP:=qk9 R;obtain⟨h8,h5⟩:=qrq R.ok;have h6:(q3a (atD Ps0 l j).box).2.1=false->(q3a (atD Ps0 l j).box).2.2=(atD Ps0 l j).box:=qrp;generalize q3a (atD Ps0 l j).box=X at *;obtain⟨X1,X2,X3⟩:=X;have HE:=zhd hE;have h0:Hid (∀ w' o',Mv (λy=>y = .bx pt j) o w o' w'->BxR w' o' (.bx pt j) v X3->PsR w' o' pt p A cap qs (l.set j { atD Ps0 l j with box:=X3 })):=λw' o' m hx=>H.setB hj R m hx h8;have h1:=zhd h6;clear hE h6 R h;refine inC ?_;go_in;go_wp2_with (first | (go_at_call 346;refine(hC).mono ?_;rintro _ _ ⟨rfl,rfl⟩) | (go_at_call 380;refine hP.mono ?_;rintro _ w1 ⟨hA,h7,o',rfl,h2,h3,h4⟩))
  all_goals (rename_i hx2;go_returns)
  .rw[HE.out.trans (if_pos (by simpa using hx2))];have:=h0.out w1 o' h3 h4;rw[show X3=(atD Ps0 l j).box from h1.out (by simpa using hx2),qdc Ps0 l j hj]at this
   exact⟨none,0,o',rfl,Dat.nil,zp,h3.mono λ_ h=>⟨j,.inr h⟩,this⟩
  .rw[HE.out.trans (if_neg (by simpa using hx2))];exact⟨hA,h7,o',rfl,h2,h5,h3.mono λ_ h=>⟨j,.inr h⟩,h0.out w1 o' h3 h4⟩
 .have HE:=zhd (show q44 l k q=([],3,l) by unfold q44;rw[if_pos (by simpa using h)]);rw[show qa8 l k q true=false by simpa using h]at hC
  clear h;refine inC ?_;go_in;go_wp2_with (go_at_call 346;refine(hC).mono ?_;rintro _ _ ⟨rfl,rfl⟩);go_returns;rw[HE.out];exact⟨none,0,o,rfl,Dat.nil,zp,Mv.refl _ _ _,H⟩
def z0n(w:World) (o:Gh) (pt p cap:Nat) (A:Option Addr) (qs:List Nat) (l:List Ps) (k:Int) (q:Bool) (e:Ending) (w':World):Prop:=∃ (hA:Option Addr) (hc:Nat) (o':Gh),e = .returned (.tuple #[.slice hA (q44 l k q).1.length hc,ii (q44 l k q).2.1])/\Dat w' o' ⟨hA,hc,(q44 l k q).1⟩/\(q44 l k q).1.length<=1000/\Mv (PtL pt) o w o' w'/\PsR w' o' pt p A cap qs (q44 l k q).2.2
theorem qnu{k:Int} : cP 348 #[pp p,ii k] w λe w'=>z0n w o pt p cap A qs l k false e w':=by
 have hP:=qil H (k:=k) (q:=false);refine inC ?_;go_in;go_wp2_with (go_at_call 332;refine hP.mono ?_;rintro _ w1 ⟨hA,h0,o',rfl,hR⟩);go_returns;exact⟨hA,h0,o',rfl,hR⟩
theorem q8u{k:Int} : cP 293 #[pp p,ii k] w λe w'=>z0n w o pt p cap A qs l k true e w':=by
 have hP:=qil H (k:=k) (q:=true);refine inC ?_;go_in;go_wp2_with (go_at_call 332;refine hP.mono ?_;rintro _ w1 ⟨hA,h0,o',rfl,hR⟩);go_returns;exact⟨hA,h0,o',rfl,hR⟩
end
section
variable{w:World} {o:Gh} {pt p cap:Nat} {A:Option Addr} {qs:List Nat} {l:List Ps} (H:PsR w o pt p A cap qs l)
include H
theorem PsR.setK{o':Gh} {v:Value} {b:Bx} {z:Int} (hj:j < l.length) (m:Mv (PkL pt j) o w o' w') (hk:q1t w' o' (.prt pt j) (atN qs j) 323 #[.bool (atD Ps0 l j).c.q,.bool (atD Ps0 l j).c.inn,ii (atD Ps0 l j).c.size,ii (atD Ps0 l j).c.depth,v,ii z]) (hb:BxR w' o' (.bx pt j) v b) (hok:b.ok):PsR w' o' pt p A cap qs (l.set j ⟨(atD Ps0 l j).c,b,z⟩):=by
 obtain⟨v0,R⟩:=H.q j hj;exact H.set (v:=v) hj m ⟨hk,hb,hok,R.d⟩
theorem qfc{k:Int} {bA:Option Addr} {bn bc:Nat} {b:List UInt8} (hb:SlB w bA bn bc b) (hbn:b.length<=1000) :
  cP 268 #[pp p,ii k,.slice bA bn bc] w λe w'=>e = .returned (.bool (q0u l k b).1)/\∃ o',Mv (PtL pt) o w o' w'/\PsR w' o' pt p A cap qs (q0u l k b).2:=by
 have hF:=q7o H (k:=k);have h7:=hb.2;subst h7;by_cases h:q2r l k=true
 .rw[if_pos h]at hF
  obtain⟨j,rfl,hj⟩:=q0o h;rw[Int.toNat_natCast]at hF
  obtain⟨v,R⟩:=H.q j hj;obtain⟨ko,lo⟩:=R.k.1.cl;cases hin:(atD Ps0 l j).c.inn with
  | false =>
   have HE:=zhd (show q0u l j b=(false,l) by unfold q0u;rw[if_pos (.inr (by rw[Int.toNat_natCast];exact hin))]);rw[hin]at ko
   refine inC ?_;go_in;go_wp2_with (go_at_call 312;refine(hF).mono ?_;rintro _ _ ⟨rfl,rfl⟩);go_returns;exact⟨q5k (by rw[HE.out]),o,Mv.refl _ _ _,by rw[HE.out];exact H⟩
  | true =>
   have hE:q0u l j b=if (q39 (atD Ps0 l j).box b).2=false then (false,l.set j { atD Ps0 l j with lost:=wrap64 ((atD Ps0 l j).lost + 1) }) else (true,l.set j { atD Ps0 l j with box:=(q39 (atD Ps0 l j).box b).1 }):=by
    unfold q0u;rw[if_neg (by simp[h,hin]),Int.toNat_natCast]
   have h6:=qij (b:=b) R.ok hbn;have hP:=qik R.b R.ok zp hb hbn;have h5:=qii (x:=(atD Ps0 l j).box) (b:=b);generalize q39 (atD Ps0 l j).box b=X at *;obtain⟨X1,X2⟩:=X;have HE:=zhd hE;have hno':=zhd h5;rw[hin]at ko
   have h3:Hid (∀ w' o',Mv (λy=>y = .bx pt j) o w o' w'->BxR w' o' (.bx pt j) v X1->Blk w' (atN qs j) 323 #[.bool (atD Ps0 l j).c.q,.bool true,ii (atD Ps0 l j).c.size,ii (atD Ps0 l j).c.depth,v,ii (atD Ps0 l j).lost]):=λw' o' m hx=>by
    have:=(R.k.go m zp).1;rwa [hin]at this
   have h4:Hid (∀ w' o',Mv (λy=>y = .bx pt j) o w o' w'->BxR w' o' (.bx pt j) v X1->X2=true->true=(q0u l j b).1/\∃ o',Mv (PtL pt) o w o' w'/\PsR w' o' pt p A cap qs (q0u l j b).2):=λw' o' m hx e=>by
    rw[HE.out.trans (if_neg (by simp[e]))];exact⟨rfl,o',m.mono λ_ h=>⟨j,.inr h⟩,H.setB hj R m hx h6⟩
   have h0:Hid (∀ w' o',Mv (λy=>y = .bx pt j) o w o' w'->BxR w' o' (.bx pt j) v X1->X2=false->false=(q0u l j b).1/\∃ o2,Mv (PtL pt) o w o2 (w'.setCell ⟨atN qs j,5,none⟩ (ii (wrap64 ((atD Ps0 l j).lost + 1))))/\PsR (w'.setCell ⟨atN qs j,5,none⟩ (ii (wrap64 ((atD Ps0 l j).lost + 1)))) o2 pt p A cap qs (q0u l j b).2):=λw' o' m hx e=>by
    rw[HE.out.trans (if_pos (by simp[e]))];have m2:Mv (PkL pt j) o w o' (w'.setCell ⟨atN qs j,5,none⟩ (ii (wrap64 ((atD Ps0 l j).lost + 1)))):=(m.mono λ_ h => .inr h).setC (λ_ => .inl R.k.2) 5 _;have k2:=(R.k.go m zp).set 5 (ii (wrap64 ((atD Ps0 l j).lost + 1)));have m3:Mv (λy=>y = .prt pt j) o' w' o' (w'.setCell ⟨atN qs j,5,none⟩ (ii (wrap64 ((atD Ps0 l j).lost + 1)))):=Mv.setC (L:=λy=>y = .prt pt j) (Mv.refl _ o' w') (q:=atN qs j) (λ_=>(m.a _ R.k.1.lt).trans R.k.2) 5 _;refine⟨rfl,o',m2.mono λ_ h=>⟨j,h⟩,?_⟩;have:=H.setK hj m2 k2 (hx.go m3 zp zp) h6;rwa [show X1=(atD Ps0 l j).box from h5 e]at this
   clear hE h5 R h;rcases hP with ⟨g,rfl,hP⟩ | ⟨g,rfl,hP⟩
   .refine inC ?_;go_in;go_wp2_with (first | (go_at_call 312;refine(hF).mono ?_;rintro _ _ ⟨rfl,rfl⟩) | (go_at_call 427;refine hP.mono ?_;rintro _ w1 ⟨rfl,o',m,hx⟩;have kk:=h3.out w1 o' m hx;have h8:=kk.cell;have h9:=kk.frozen))
    all_goals (rename_i hx2;go_returns;first | (obtain⟨h1,h2⟩:=h4.out w1 o' m hx (by simpa using hx2);exact⟨q5k h1,h2⟩) | (obtain⟨h1,h2⟩:=h0.out w1 o' m hx (by simpa using hx2);exact⟨q5k h1,h2⟩))
   .refine inC ?_;go_in;go_wp2_with (first | (go_at_call 312;refine(hF).mono ?_;rintro _ _ ⟨rfl,rfl⟩) | (go_at_call 429;refine hP.mono ?_;rintro _ w1 ⟨rfl,o',m,hx⟩;have kk:=h3.out w1 o' m hx;have h8:=kk.cell;have h9:=kk.frozen))
    all_goals (rename_i hx2;go_returns;first | (obtain⟨h1,h2⟩:=h4.out w1 o' m hx (by simpa using hx2);exact⟨q5k h1,h2⟩) | (obtain⟨h1,h2⟩:=h0.out w1 o' m hx (by simpa using hx2);exact⟨q5k h1,h2⟩))
 .rw[if_neg h]at hF
  have HE:=zhd (show q0u l k b=(false,l) by unfold q0u;rw[if_pos (.inl (by simpa using h))]);refine inC ?_;go_in;go_wp2_with (go_at_call 312;refine(hF).mono ?_;rintro _ _ ⟨rfl,rfl⟩);go_returns;exact⟨q5k (by rw[HE.out]),o,Mv.refl _ _ _,by rw[HE.out];exact H⟩
end
theorem qfd{o:Gh} {g:Nat} {v:Value} {c:Po} {z:Int} (K:q1t w o (.prt pt j) g 323 #[.bool c.q,.bool c.inn,ii c.size,ii c.depth,v,ii z]) (hd:c.depth<=1000) :
  cP 177 #[pp g] w λe w'=>e = .returned (.tuple #[])/\∃ o' v',Mv (PkL pt j) o w o' w'/\PoR w' o' pt j g v' (q3q c):=by
 have kc:=K.1.cell;have kf:=K.1.frozen;have lt:=K.1.lt;cases hq:c.q with
 | true =>
  rw[hq]at kc
  refine inC ?_;go_in;go_wp2;go_returns;generalize hw0:(w.setCell ⟨g,5,none⟩ (ii 0)).setCell ⟨g,4,none⟩ (.iface 397 (pp w.heap.size))=w0;have h1:w0.heap.size=w.heap.size:=by rw[<- hw0];simp
  have m0:Mv (PkL pt j) o w o w0:=by rw[<- hw0];exact(Mv.setC (Mv.refl _ o w) (q:=g) (λ_ => .inl K.2) 5 _).setC (λ_ => .inl K.2) 4 _
  have K0:q1t w0 o (.prt pt j) g 323 #[.bool c.q,.bool c.inn,ii c.size,ii c.depth,.iface 397 (pp w.heap.size),ii 0]:=by rw[<- hw0];exact(K.set 5 _).set 4 _
  have b1:bW w0 (w0.alloc (.cells #[.slice none 0 0,ii c.depth] 399)):=bR.alloc nL _;have kx:=Blk.new w0 399 #[.slice none 0 0,ii c.depth];have m1:Mv (PkL pt j) o w0 (lay w0 o (.bx pt j)) (w0.alloc (.cells #[.slice none 0 0,ii c.depth] 399)):=Mv.lay (S:=λ_=>False) _ (fO b1 _) (λ_ _ h=>h.elim);have h0:q1t (w0.alloc (.cells #[.slice none 0 0,ii c.depth] 399)) (lay w0 o (.bx pt j)) (.bx pt j) w0.heap.size 399 #[.slice none 0 0,ii c.depth]:=⟨kx,q07 nL⟩
  rw[h1]at h0
  refine⟨rfl,_,.iface 397 (pp w.heap.size),m0.trans m1,⟨K0.1.alloc _,(q0l zo).trans K.2⟩,?_,?_,hd⟩
  .unfold q3q;rw[hq];exact⟨w.heap.size,none,0,[],rfl,h0,⟨Own.nil _ _ _,λk hk=>by cases hk⟩,rfl,λh hh=>by cases hh⟩
  .unfold q3q;rw[hq];exact⟨hd,zp,λb hb=>by cases hb⟩
 | false =>
  rw[hq]at kc
  refine inC ?_;go_in;go_wp2;go_returns;generalize hw0:(w.setCell ⟨g,5,none⟩ (ii 0)).setCell ⟨g,4,none⟩ (.iface 400 (pp w.heap.size))=w0;have h1:w0.heap.size=w.heap.size:=by rw[<- hw0];simp
  have m0:Mv (PkL pt j) o w o w0:=by rw[<- hw0];exact(Mv.setC (Mv.refl _ o w) (q:=g) (λ_ => .inl K.2) 5 _).setC (λ_ => .inl K.2) 4 _
  have K0:q1t w0 o (.prt pt j) g 323 #[.bool c.q,.bool c.inn,ii c.size,ii c.depth,.iface 400 (pp w.heap.size),ii 0]:=by rw[<- hw0];exact(K.set 5 _).set 4 _
  have b1:bW w0 (w0.alloc (.cells #[.slice none 0 0,.bool false,.bool false] 402)):=bR.alloc nL _;have kx:=Blk.new w0 402 #[.slice none 0 0,.bool false,.bool false];have m1:Mv (PkL pt j) o w0 (lay w0 o (.bx pt j)) (w0.alloc (.cells #[.slice none 0 0,.bool false,.bool false] 402)):=Mv.lay (S:=λ_=>False) _ (fO b1 _) (λ_ _ h=>h.elim);have h0:q1t (w0.alloc (.cells #[.slice none 0 0,.bool false,.bool false] 402)) (lay w0 o (.bx pt j)) (.bx pt j) w0.heap.size 402 #[.slice none 0 0,.bool false,.bool false]:=⟨kx,q07 nL⟩
  rw[h1]at h0
  refine⟨rfl,_,.iface 400 (pp w.heap.size),m0.trans m1,⟨K0.1.alloc _,(q0l zo).trans K.2⟩,?_,?_,hd⟩
  .unfold q3q;rw[hq];exact⟨w.heap.size,⟨none,0,[]⟩,rfl,h0,rfl,Dat.nil⟩
  .unfold q3q;rw[hq];simp[Bx.ok]
section
variable{w:World} {o:Gh} {pt p cap:Nat} {A:Option Addr} {qs:List Nat} {l:List Ps} (H:PsR w o pt p A cap qs l)
include H
theorem qkb(h8:l.length<=1000):cP 378 #[pp p] w λe w'=>e = .returned (.tuple #[])/\∃ o',Mv (PtL pt) o w o' w'/\PsR w' o' pt p A cap qs (q3r l):=by
 have kc:=H.k.1.cell;obtain⟨wo,rfl⟩:∃ wo:World,wo=w:=⟨_,rfl⟩
 refine inC ?_;go_in;go_wp2;go_loopw [11] (λi wr=>∃ (k:Nat) (o':Gh),i = .int .i64 k/\k<=l.length/\Mv (PtL pt) o wo o' wr/\PsR wr o' pt p A cap qs ((l.take k).map (λx=>q3q x.c) ++ l.drop k)) (λi _=>l.length - (intOf i).toNat)
 case atStart=>exact⟨0,o,rfl,Nat.zero_le _,Mv.refl _ _ _,by simpa using H⟩
 case round =>
  clear kc;obtain⟨k,o',rfl,hkn,m,R⟩:=hrel;by_cases hk:k < l.length
  .have hw1:wrap64 ((k:Int) + 1)=((k + 1:Nat):Int):=by unfold wrap64;omega
   have hL:((l.take k).map (λx=>q3q x.c) ++ l.drop k).length=l.length:=by simp;omega
   obtain⟨a,rfl,hal,hac⟩:=R.at_ (i:=k) zo;obtain⟨v,Rk⟩:=R.q k zo;have h2:=qgs Ps0 (λx=>q3q x.c) l hk;have h1:((l.take k).map (λx=>q3q x.c) ++ l.drop k).set k (q3q (atD Ps0 l k).c)=(l.take (k + 1)).map (λx=>q3q x.c) ++ l.drop (k + 1):=qa2 Ps0 (λx=>q3q x.c) l hk;rw[h2]at Rk
   have hF:=qfd Rk.k Rk.d;have h0:∀ (w':World) (o2:Gh) (v:Value),Mv (PkL pt k) o' wr o2 w'->PoR w' o2 pt k (atN qs k) v (q3q (atD Ps0 l k).c)->PsR w' o2 pt p (some ⟨a,0,none⟩) cap qs ((l.take (k + 1)).map (λx=>q3q x.c) ++ l.drop (k + 1)):=λw' o2 v m hx=>h1 ▸ R.set zo m hx;clear R;go_wp2_with (go_at_call 177;refine hF.mono ?_;rintro _ w1 ⟨rfl,o1,v1,m1,R1⟩);exact⟨⟨k + 1,o1,by go_num,hk,m.trans (m1.mono λ_ h=>⟨k,h⟩),h0 w1 o1 v1 m1 R1⟩,by simp[intOf];omega⟩
  .obtain rfl:k=l.length:=zo;go_wp2_with fail;go_returns;rw[List.take_of_length_le nL,List.drop_of_length_le nL,List.append_nil]at R
   exact⟨rfl,o',m,R⟩
end
theorem qrr{α β : Type} (d : α) (f : α->β) (q:List α) {k:Nat} (hk:k < q.length):(q.take (k + 1)).map f=(q.take k).map f ++ [f (atD d q k)]:=by
 rw[List.take_succ_eq_append_getElem hk,List.map_append,List.map_singleton,q0s hk]
theorem qvr:ElemOf 316 319 1 8:=q1l (z := .pointer none) zk zk rfl zd zd
theorem z0o:Tryz.prog.underlying 47=some (.slice (Tryz.prog.elem 47)):=zk
theorem qvs(w:World):(sizeOf (Tryz.prog.elem 47)).run Tryz.prog w = .ok 4 w:=zk
theorem PsR.push{w5:World} {o:Gh} {p c' g k:Nat} {A':Option Addr} {qs:List Nat} {l:List Ps} {v:Value} {y:Ps} (R:PsR w o pt p A c qs l) (hk:l.length=k) (Y:PoR w o pt k g v y) (own:Own w5 319 1 A' (k + 1) c' (qeq qs ++ [pp g])) (hf:Fr (q02 A) w w5) (hat:∀ k,q02 A' k->q02 A k\/w.heap.size<=k) :
  ∃ o',Mv (λy=>y = .prs pt) o w o' (w5.setCell ⟨p,0,none⟩ (.slice A' (k + 1) c'))/\PsR (w5.setCell ⟨p,0,none⟩ (.slice A' (k + 1) c')) o' pt p A' c' (qs ++ [g]) (l ++ [y]):=by
 subst hk;have m1:Mv (λy=>y = .prs pt) o w (lay w o (.prs pt)) w5:=Mv.lay _ hf (λj _ hj=>R.a.2 j hj);have h0:Blk w5 p 318 #[.slice A l.length c]:=R.k.1.fr hf (R.a.1.ne R.k.1 zd);have m2:=m1.setC (λ_=>R.k.2) 0 (.slice A' (l.length + 1) c');have hL:(l ++ [y]).length=l.length + 1:=zp;refine⟨_,m2,⟨by rw[hL];exact h0.set_ 0 _,(q0l R.k.1.lt).trans R.k.2⟩,⟨?_,λj hj=>?_⟩,by simp[R.n],λi hi=>?_⟩
 .have:=own.fr ((Fr.refl (λk=>k=p) w5).setCell (p:=⟨p,0,none⟩) (λ_=>rfl) (.slice A' (l.length + 1) c')) (λj hj e=>own.ne h0 zd (by rw[<- e];exact hj));rw[hL];unfold qeq at this ⊢;rw[List.map_append];exact this
 .by_cases q:j < w.heap.size
  .exact(q0l q).trans (R.a.2 j ((hat j hj).resolve_right zo))
  .exact q07 zo
 .rw[q28,R.n,Me.atD_app];by_cases q:i < l.length
  .rw[if_pos q,if_pos q];obtain⟨u,hu⟩:=R.q i q;exact⟨u,hu.go m2 zp zp zp⟩
  .obtain rfl:i=l.length:=zo;rw[if_neg q,if_pos rfl,if_neg q,if_pos rfl];exact⟨v,Y.go m2 zp zp zp⟩
def PrL(pt:Nat):Lb->Prop:=λy=>y = .prs pt\/PtL pt y
def z0p(w:World) (o:Gh) (pt:Nat) (l:List Ps) (e:Ending) (w':World):Prop:=∃ (p:Nat) (A:Option Addr) (c:Nat) (qs:List Nat) (o':Gh),e = .returned (pp p)/\PsR w' o' pt p A c qs l/\Mv (λ_=>False) o w o' w'
theorem qrs{o:Gh} {l:Hd Po} (hl:qb6.ok w l) (hd:∀ c ∈ l.l,c.depth<=1000) (hfr:∀ j,j < w.heap.size->¬ PrL pt (o j)):cP 116 #[l.hq] w λe w'=>z0p w o pt (qgy l.l) e w':=by
 have hc:=hl.1.1.2.1;have hlen:=hl.1.len;obtain⟨m,hm⟩:∃ m,m=min l.l.length 8:=⟨_,rfl⟩
 have h3:SlG w (slA l.A 0 l.c 4) m l.c 4 qzs.f (l.l.take m):=by have h:=hl.1.cut (Nat.zero_le m) (by omega:m<=l.l.length);rw[show qzs.sz=4 from rfl]at h;simpa using h
 have hsl:=λw=>q4p z0o qvs w l.A l.l.length l.c m zo;have hmin:min (l.l.length:Int) 8=m:=zo;have h9:qgy l.l=(l.l.take m).map q3q:=by
  unfold qgy;rcases Nat.lt_or_ge l.l.length 8 with h | h
  .rw[List.take_of_length_le zo,List.take_of_length_le zo]
  .rw[show m=8 by omega]
 rw[h9];have hq:(l.l.take m).length=m:=by simp;omega
 have hb:∀ c ∈ l.l.take m,c.depth<=1000:=λc h=>hd c (List.mem_of_mem_take h);have he:m<=8:=zo;generalize l.l.take m=q at *;generalize slA l.A 0 l.c 4=A0 at *;clear hm h9 hd hl;have h5:=Blk.new w 318 #[.slice none 0 0];have b0:bW w (w.alloc (.cells #[.slice none 0 0] 318)):=zv;obtain⟨wo,rfl⟩:∃ wo:World,wo=w:=⟨_,rfl⟩
 refine inC ?_;go_in;go_upto_region 2 with fail;generalize wo.alloc (.cells #[.slice none 0 0] 318)=w1 at *;obtain⟨p,hp⟩:∃ p,p=wo.heap.size:=⟨_,rfl⟩
 rw[<- hp]at h5
 rw[<- hp];have HP:=zhd hp;clear hp;go_wp2_with fail;go_loopw [15] (λi wr=>∃ (k:Nat) (A:Option Addr) (c:Nat) (qs:List Nat) (o':Gh),i = .int .i64 k/\k<=m/\Mv (λ_=>False) o wo o' wr/\PsR wr o' pt p A c qs ((q.take k).map q3q)) (λi _=>m - (intOf i).toNat)
 case atStart=>exact⟨0,none,0,[],lay wo o (.prs pt),rfl,Nat.zero_le _,Mv.lay (S:=λ_=>False) _ (fO b0 _) (λ_ _ h=>h.elim),⟨⟨h5,q07 (Nat.le_of_eq HP.out.symm)⟩,⟨Own.nil _ _ _,λk hk=>by cases hk⟩,rfl,λi hi=>absurd hi zp⟩⟩
 case round =>
  clear b0 h5;obtain⟨k,A,c,qs,o',rfl,h7,M,R⟩:=hrel;by_cases hk:k < m
  .obtain⟨sb,so,hA,hh,h1⟩:=(h3.keep (M.f.below (λ_ _=>id) nL)).at_ Po0 (k:=k) zo;have s0:wr.cell? ⟨sb,so + k * 4,none⟩=some (.bool (atD Po0 q k).q):=h1 0 _ rfl;have s1:=h1 1 _ rfl;have s2:=h1 2 _ rfl;have s3:=h1 3 _ rfl;have hw1:wrap64 ((k:Int) + 1)=((k + 1:Nat):Int):=by unfold wrap64;omega
   have h8:k < q.length:=by rw[hq];exact hk
   have ht:=qrr Po0 q3q q (k:=k) h8;have hn:(atD Po0 q k).depth<=1000:=hb _ (q0h (d:=Po0) h8);have h4:((q.take k).map q3q).length=k:=by rw[List.length_map,List.length_take,hq];exact Nat.min_eq_left h7
   have HT:=zhd ht;clear ht h1;generalize atD Po0 q k=x at *;generalize (q.take k).map q3q=L at *;rw[hA];go_upto_region 6 with fail;have b9:bW wr ((wr.alloc (.cells (Po.lw x) 199)).alloc (.cells #[.bool x.q,.bool x.inn,ii x.size,ii x.depth,.nilIface,ii 0] 323)):=zv;have kg:=Blk.new (wr.alloc (.cells (Po.lw x) 199)) 323 #[.bool x.q,.bool x.inn,ii x.size,ii x.depth,.nilIface,ii 0];rw[World.size_alloc]at kg
   generalize (wr.alloc (.cells (Po.lw x) 199)).alloc (.cells #[.bool x.q,.bool x.inn,ii x.size,ii x.depth,.nilIface,ii 0] 323)=w2 at *;obtain⟨g,hg⟩:∃ g,g=wr.heap.size + 1:=⟨_,rfl⟩
   rw[<- hg]at kg
   rw[<- hg];have M2:Mv (λ_=>False) o' wr (λj=>if j=g then .prt pt k else lay wr o' .data j) w2:=⟨fO b9 _,λj hj=>(if_neg zo).trans (q0l hj)⟩
   have ha:=M.trans M2;have R2:=R.go M2 id (λ_=>id) (λ_=>id) id;have K:q1t w2 (λj=>if j=g then .prt pt k else lay wr o' .data j) (.prt pt k) g 323 #[.bool x.q,.bool x.inn,ii x.size,ii x.depth,.nilIface,ii 0]:=⟨kg,if_pos rfl⟩
   generalize (λj=>if j=g then Lb.prt pt k else lay wr o' .data j)=o2 at *;have hF:=qfd K hn;clear R M M2 K kg s0 s1 s2 s3 hA hh hq hg;go_wp2_with (first | (go_at_call 177;refine hF.mono ?_;rintro _ w3 ⟨rfl,o3,v3,m3,R3⟩;have h0:=R2.go' m3 (by simp[PkL]) (λi hi=>by have hf:i≠k:=Nat.ne_of_lt (Nat.lt_of_lt_of_eq hi h4);simp[PkL,hf]) (by simp[PkL]);obtain⟨kp3,lp3⟩:=h0.k.1.cl;have h2:=h0.a.1;rw[h4]at h2) | (at_builtin;refine q2k qvr w3 zr _ _ zr zr h2 #[pp g] rfl (by simp[Value.oneCell']) zr (by exact Nat.le_trans h7 (Nat.le_trans he zd)) ?_;intro A' c' w5 hown4 hf4 hat4;have h6:=h0.k.1.fr hf4 (h0.a.1.ne h0.k.1 zd);have kc5:=h6.cell;have kf5:=h6.frozen;have lp5:=h6.lt));obtain⟨o6,m6,R6⟩:=h0.push h4 R3 hown4 hf4 hat4;rw[<- HT.out]at R6
   refine⟨⟨k + 1,A',c',qs ++ [g],o6,by go_num,hk,(ha.trans' m3 (λj hj h=>(hfr j hj ?_).elim)).trans' m6 (λj hj h=>(hfr j hj ?_).elim),R6⟩,by simp[intOf];omega⟩
   .exact .inr ⟨k,h⟩
   .exact .inl h
  .obtain rfl:k=m:=zo;go_wp2_with fail;go_returns;rw[List.take_of_length_le (Nat.le_of_eq hq)]at R
   exact⟨_,_,_,_,o',rfl,R,M⟩
end Go.Proofs.YtncfcbohiodnnaaGreat
