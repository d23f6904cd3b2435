/- Parts of this seat's claims. -/
import Derived.Test.YtncfcbohiodnnaaGreatW24
set_option maxRecDepth 100000
set_option maxHeartbeats 6400000
namespace Go.Proofs.YtncfcbohiodnnaaGreat
open Go.RowKit
variable{w w' W wa wo W':World} {c n pt r B j b m mb q base cap id B0:Nat} {A:Option Addr} {a code what:Int} {cs:Array Value}
structure Rdy(W w:World) (o:Gh) (s:Ce) (n:Nat):Prop where
 H:Sta W s
 B:Bas W w o
 l:s.tab.length=s.tk.length
 sl:s.slk≠none
 h:s.tk.length<=s.sk.has.length
 e:s.evs.length + n<=99999990000
 d:DN s
 z:Sz s
 pr:s.tk.length<=s.cf.procs.l.length
theorem Rdy.mono{o:Gh} {s:Ce} (Y:Rdy W w o s n) (h:m<=n):Rdy W w o s m:=⟨Y.H,Y.B,Y.l,Y.sl,Y.h,Nat.le_trans (Nat.add_le_add_left h _) Y.e,Y.d,Y.z,Y.pr⟩
theorem Rdy.go{o o':Gh} {s s':Ce} {L:Lb->Prop} (Y:Rdy W w o s (j + n)) (E:Ext j s s') (M:Mv L o w o' w') (hL:¬ L .free):Rdy W w' o' s' n:=by
 refine⟨E.sta Y.H,Y.B.go M hL,by rw[E.tb,E.tk];exact Y.l,λq=>?_,by rw[E.tk,E.sh];exact Y.h,?_,E.dn Y.l Y.d,E.z Y.z,by rw[E.tk,E.cf];exact Y.pr⟩
 .have h:=E.so;rw[q]at h
  obtain⟨y,hy⟩:=Option.ne_none_iff_exists'.1 Y.sl;rw[hy]at h
  cases h
 .have h1:=E.len;have h2:=Y.e
  calc s'.evs.length + n<=s.evs.length + j + n:=Nat.add_le_add_right h1 n
   _=s.evs.length + (j + n):=Nat.add_assoc _ _ _
   _<=_:=h2
theorem Rdy.note{o o':Gh} {s:Ce} {L:Lb->Prop} (Y:Rdy W w o s (1 + n)) (k call code v:Int) (M:Mv L o w o' w') (hL:¬ L .free):Rdy W w' o' (q0i s k call code v) n:=by
 refine⟨Y.H.note _ _ _ _,Y.B.go M hL,Y.l,Y.sl,Y.h,?_,Y.d,⟨Y.z.p,Y.z.q,Y.z.l,Y.z.cq,Y.z.cl⟩,Y.pr⟩;have h2:=Y.e;show(s.evs ++ [_]).length + n<=_;rw[List.length_append,List.length_singleton,Nat.add_assoc];exact h2
structure Nw(W w0:World) (o0:Gh) (pt c p:Nat) (s:Ce) (n:Nat) (w:World) (o:Gh) (x:Cx):Prop where
 M:Mv (PaL pt) o0 w0 o w
 hx:Hid (x.p=p)
 Y:Rdy W w o s n
 R:CeR w o pt c x s
def Now(W w0:World) (o0:Gh) (pt c p:Nat) (s:Ce) (n:Nat) (w:World):Prop:=∃ o x,Nw W w0 o0 pt c p s n w o x
def q6q(W w0:World) (o0:Gh) (pt c p:Nat) (s:Ce) (n:Nat) (v:Value) (e:Ending) (w':World):Prop:=e = .returned v/\Now W w0 o0 pt c p s n w'
section
variable{W w0:World} {o0:Gh} {pt c p:Nat} {s:Ce} {n:Nat} {w:World} {o:Gh} {x:Cx}
theorem Nw.now(N:Nw W w0 o0 pt c p s n w o x):Now W w0 o0 pt c p s n w:=⟨o,x,N⟩
theorem Nw.lt(N:Nw W w0 o0 pt c p s n w o x):c < w.heap.size:=N.R.k.1.lt
theorem Nw.blw(N:Nw W w0 o0 pt c p s n w o x) (hb:bW w w'):Nw W w0 o0 pt c p s n w' o x :=
 ⟨N.M.trans (Mv.below hb),N.hx,⟨N.Y.H,N.Y.B.go (L:=λ_=>False) (Mv.below hb) id,N.Y.l,N.Y.sl,N.Y.h,N.Y.e,N.Y.d,N.Y.z,N.Y.pr⟩,N.R.blw hb⟩
theorem Nw.go{s':Ce} {o':Gh} {x':Cx} {L:Lb->Prop} (N:Nw W w0 o0 pt c p s (j + n) w o x) (E:Ext j s s') (m:Mv L o w o' w') (hL:∀ l,L l->PaL pt l) (hp:x'.p=x.p) (R:CeR w' o' pt c x' s'):Nw W w0 o0 pt c p s' n w' o' x' :=
 ⟨N.M.trans (m.mono hL),hp.trans N.hx.out,N.Y.go E m (λh=>PaL.nf (hL _ h)),R⟩
theorem Nw.aft{s':Ce} {v:Value} {e:Ending} (N:Nw W w0 o0 pt c p s (j + n) w o x) (E:Ext j s s') (h:Aft w o pt c x.p s' v e w'):q6q W w0 o0 pt c p s' n v e w':=by
 obtain⟨h1,o',m,x',hp,R⟩:=h;exact⟨h1,o',x',N.go E m (λ_ h=>h) hp R⟩
theorem Nw.zero(N:Nw W w0 o0 pt c p s n w o x):Nw W w0 o0 pt c p s (0 + n) w o x:=by rw[Nat.zero_add];exact N
theorem Nw.mono(N:Nw W w0 o0 pt c p s n w o x) (h:m<=n):Nw W w0 o0 pt c p s m w o x:=⟨N.M,N.hx,N.Y.mono h,N.R⟩
theorem Nw.box(N:Nw W w0 o0 pt c p s n w o x) (hb:bW w w'):∃ o',Nw W w' o' pt c p s n w' o' x/\(∀ k,w.heap.size<=k->o' k = .data)/\Mv (PaL pt) o0 w0 o' w'/\Mv (λ_=>False) o w o' w':=by
 have m:Mv (λ_=>False) o w (lay w o .data) w':=Mv.lay .data (fO hb (λ_=>False)) (λ_ _ h=>h.elim);have m2:Mv (PaL pt) o w (lay w o .data) w':=m.mono λ_ h=>h.elim;exact⟨_,⟨Mv.refl _ _ _,N.hx,⟨N.Y.H,N.Y.B.go m id,N.Y.l,N.Y.sl,N.Y.h,N.Y.e,N.Y.d,N.Y.z,N.Y.pr⟩,N.R.go m (λ_ h=>h.elim) id⟩,λk hk=>q07 hk,N.M.trans m2,m⟩
theorem Nw.self(N:Nw W w0 o0 pt c p s n w o x):Nw W w o pt c p s n w o x:=⟨Mv.refl _ _ _,N.hx,N.Y,N.R⟩
theorem Nw.from{o1:Gh} {w1:World} (N:Nw W w1 o1 pt c p s n w o x) (m:Mv (PaL pt) o0 w0 o1 w1):Nw W w0 o0 pt c p s n w o x:=⟨m.trans N.M,N.hx,N.Y,N.R⟩
theorem Now.from{o1:Gh} {w1:World} (N:Now W w1 o1 pt c p s n w) (m:Mv (PaL pt) o0 w0 o1 w1):Now W w0 o0 pt c p s n w:=by
 obtain⟨o,x,N⟩:=N;exact⟨o,x,N.from m⟩
theorem Nw.fin{s':Ce} {o1:Gh} {w1:World} (N:Nw W w1 o1 pt c p s n w o x) (m1:Mv (PaL pt) o0 w0 o1 w1) (h:m<=n) (e:s'=s):Now W w0 o0 pt c p s' m w:=by rw[e];exact(N.mono h).now.from m1
theorem Nw.note(N:Nw W w0 o0 pt c p s (1 + n) w o x) {k call code v:Int} : cP 288 #[pp c,ii k,ii call,ii code,ii v] w λe w'=>q6q W w0 o0 pt c p (q0i s k call code v) n (.tuple #[]) e w':=by
 refine(q9f N.R (Nat.le_trans (Nat.le_add_right _ _) (Nat.le_trans N.Y.e zd))).mono ?_;rintro _ w' ⟨rfl,o',m,x',hx,R2⟩;exact⟨rfl,o',x',N.M.trans m,hx.trans N.hx.out,N.Y.note _ _ _ _ m PaL.nf,R2⟩
theorem Nw.fault(N:Nw W w0 o0 pt c p s (1 + n) w o x) {k kd:Nat} (hk:k < s.tk.length) (hkd:kd < 5):cP 289 #[pp c,ii kd,ii k] w λe w'=>q6q W w0 o0 pt c p (q1c s kd k) n (.tuple #[]) e w' :=
 (q8f N.R N.Y.H N.Y.B hk hkd (Nat.le_trans (Nat.le_add_right _ _) (Nat.le_trans N.Y.e zd))).mono λ_ _ h=>N.aft (q62 s kd k) h
theorem Nw.rest(N:Nw W w0 o0 pt c p s n w o x) {k:Nat} (hk:k < s.tk.length):cP 298 #[pp c,ii k] w λe w'=>q6q W w0 o0 pt c p (q57 s k) n (.tuple #[]) e w':=by
 have hl:=N.Y.l;have hh:=N.Y.h;refine(qim N.R hk N.Y.H.n8 N.Y.sl (λy hy=>?_)).mono λ_ _ h=>N.zero.aft (q7x zo N.Y.sl) h;have:s.sk=y:=by unfold Ce.sk;rw[hy];rfl
 rw[this]at hh
 omega
theorem Nw.complete(N:Nw W w0 o0 pt c p s (1 + n) w o x) {k:Nat} {call code v:Int} (hk:k < s.tk.length) (h7:code≠7) (h8:code≠8):cP 292 #[pp c,ii k,ii call,ii code,ii v] w λe w'=>q6q W w0 o0 pt c p (q09 s k call code v) n (.tuple #[]) e w' :=
 (q4b N.R hk N.Y.H.n8 (Nat.le_trans (Nat.le_add_right _ _) (Nat.le_trans N.Y.e zd))).mono λ_ _ h=>N.aft (q18 h7 h8) h
theorem Nw.arrive(N:Nw W w0 o0 pt c p s (1 + n) w o x) {k:Nat} {call:Int} {bA:Option Addr} {bn bc:Nat} {b:List UInt8} (hb:SlB w bA bn bc b) (hk:k < s.tk.length):cP 294 #[pp c,ii k,ii call,.slice bA bn bc] w λe w'=>q6q W w0 o0 pt c p (q15 s k call b) n (.tuple #[]) e w' :=
 (qbx N.R hb hk N.Y.H.n8 (Nat.le_trans (Nat.le_add_right _ _) (Nat.le_trans N.Y.e zd))).mono λ_ _ h=>N.aft q6h h
theorem Nw.start(N:Nw W w0 o0 pt c p s n w o x) {k:Nat} {win:Int} (hk:k < s.tk.length):cP 122 #[pp c,ii k,ii win] w λe w'=>q6q W w0 o0 pt c p (q0m s k win) n (.tuple #[]) e w' :=
 (q61 N.R hk N.Y.H.n8).mono λ_ _ h=>N.zero.aft (q4t s k win) h
theorem Nw.stop(N:Nw W w0 o0 pt c p s n w o x) {k:Nat} (hk:k < s.tk.length):cP 325 #[pp c,ii k] w λe w'=>q6q W w0 o0 pt c p (q2e s k) n (.tuple #[]) e w' :=
 (q6e N.R hk N.Y.H.n8).mono λ_ _ h=>N.zero.aft (q6f s k) h
theorem Nw.idle(N:Nw W w0 o0 pt c p s n w o x):cP 327 #[pp c] w λe w'=>q6q W w0 o0 pt c p (qes s) n (.tuple #[]) e w' :=
 (qff N.R N.Y.H.n8).mono λ_ _ h=>N.zero.aft (qdg s) h
theorem Nw.restart(N:Nw W w0 o0 pt c p s n w o x) {cold:Bool} : cP 326 #[pp c,.bool cold] w λe w'=>q6q W w0 o0 pt c p (q2s s cold) n (.tuple #[]) e w' :=
 (qah N.R N.Y.H N.Y.B).mono λ_ _ h=>N.zero.aft (q6x s cold) h
theorem Nw.tab(N:Nw W w0 o0 pt c p s n w o x) {w':World} {l:List Rw} {tn:Int} (E:Ext 0 s { s with tab:=l,tn:=tn }) (T:TbR w' x.t x.mb l tn) (f:Fr (TbS x.t x.mb) w w'):Nw W w0 o0 pt c p { s with tab:=l,tn:=tn } n w' o x :=
 N.zero.go E (N.R.tb.mv f) (by rintro _ rfl;rfl) rfl (N.R.setTab (N.R.tb.mv f) T)
theorem Nw.tset(N:Nw W w0 o0 pt c p s n w o x) {k st:Int} (hk:i64 k):cP 331 #[pp x.t,ii k,ii st] w λe w'=>e = .returned (.bool (setS s.tab s.tn k st).1)/\Nw W w0 o0 pt c p (q6a s (setS s.tab s.tn k st).2) n w' o x :=
 (qcz N.R.tb.1 hk).mono λ_ _ h=>⟨h.1,N.tab q8h h.2.1 h.2.2⟩
theorem Nw.twait(N:Nw W w0 o0 pt c p s n w o x) {k call what wake:Int} (hk:i64 k):cP 385 #[pp x.t,ii k,ii call,ii what,ii wake] w λe w'=>e = .returned (.bool (qbb s.tab s.tn k call what wake).1)/\Nw W w0 o0 pt c p (q6a s (qbb s.tab s.tn k call what wake).2) n w' o x :=
 (qmm N.R.tb.1 hk).mono λ_ _ h=>⟨h.1,N.tab qdf h.2.1 h.2.2⟩
theorem Nw.trank(N:Nw W w0 o0 pt c p s n w o x) {k prio:Int} (hk:i64 k):cP 344 #[pp x.t,ii k,ii prio] w λe w'=>e = .returned (.bool (qek s.tab k prio).1)/\Nw W w0 o0 pt c p { s with tab:=(qek s.tab k prio).2 } n w' o x :=
 (qmn N.R.tb.1 hk).mono λ_ _ h=>⟨h.1,N.tab qip h.2.1 h.2.2⟩
theorem Nw.tstate(N:Nw W w0 o0 pt c p s n w o x) {k:Int} (hk:i64 k):cP 343 #[pp x.t,ii k] w λe w'=>e = .returned (ii (q3o s.tab k).1.state)/\Nw W w0 o0 pt c p s n w' o x :=
 (qjl N.R.tb.1 hk).mono λ_ _ h=>⟨h.1,N.blw h.2⟩
theorem Nw.tfirst(N:Nw W w0 o0 pt c p s n w o x) {call what:Int} : cP 290 #[pp x.t,ii call,ii what] w λe w'=>e = .returned (ii (q0e s call what))/\Nw W w0 o0 pt c p s n w' o x :=
 (q4o N.R.tb.1).mono λ_ _ h=>⟨h.1,N.blw h.2⟩
end
theorem q9j{α β : Type} (z : α) (f : α->β) (l:List α) (k:Nat) (y : α) (hy:f y=f (atD z l k)) (i:Nat):f (atD z (l.set k y) i)=f (atD z l i):=by
 by_cases hk:k < l.length
 .rw[Me.atD_set _ _ _ _ _ hk];by_cases q:i=k
  .subst q;rw[if_pos rfl];exact hy
  .rw[if_neg q]
 .rw[List.set_eq_of_length_le zo]
def ObK(b y:Ob):Prop:=(∀ i,(atD Pq0 b.pools i).c=(atD Pq0 y.pools i).c)/\∀ i,(atD Sa0 b.slates i).size=(atD Sa0 y.slates i).size
theorem ObK.refl(y:Ob):ObK y y:=⟨λ_=>rfl,λ_=>rfl⟩
theorem q5g{s:Ce} {b:Ob} (h:ObK b s.obs):Ext 0 s { s with obs:=b }:=qw2 h.1 h.2
theorem qc2(y:Ob) (k:Int):ObK (q2z y k).2 y/\(q2z y k).1 < 7:=by
 unfold q2z;split
 .exact⟨ObK.refl y,zp⟩
 .split
  .exact⟨ObK.refl y,zp⟩
  .exact⟨⟨λ_=>rfl,λ_=>rfl⟩,zp⟩
theorem qc3(y:Ob) (k:Int):ObK (q30 y k).2 y/\(q30 y k).1 < 7:=by
 unfold q30;split
 .exact⟨ObK.refl y,zp⟩
 .split
  .exact⟨ObK.refl y,zp⟩
  .exact⟨⟨λ_=>rfl,λ_=>rfl⟩,zp⟩
theorem q8i(y:Ob) (k:Int) (u:Bool):ObK (q29 y k u).2 y/\(q29 y k u).1 < 7:=by
 unfold q29;split
 .exact⟨ObK.refl y,zp⟩
 .exact⟨⟨λ_=>rfl,λ_=>rfl⟩,zp⟩
theorem qs9(y:Ob) (k:Int):(qdy y k).2 < 7:=by unfold qdy;split <;> simp
theorem qam(y:Ob) (k:Int) (b:List UInt8):ObK (q45 y k b).2 y:=by
 unfold q45;split
 .exact ObK.refl y
 .split
  .exact ObK.refl y
  .split
   .exact ObK.refl y
   .exact⟨λi=>q9j Pq0 Pq.c _ _ _ zr i,λ_=>rfl⟩
theorem qfn(y:Ob) (k:Int):ObK (q3b y k).2.2 y/\(q3b y k).2.1 < 7:=by
 unfold q3b;split
 .exact⟨ObK.refl y,zp⟩
 .split
  .exact⟨ObK.refl y,zp⟩
  .exact⟨⟨λi=>q9j Pq0 Pq.c _ _ _ zr i,λ_=>rfl⟩,zp⟩
theorem qc4(y:Ob) (k:Int) (b:List UInt8):ObK (q2a y k b).2 y/\(q2a y k b).1 < 7:=by
 unfold q2a;split
 .exact⟨ObK.refl y,zp⟩
 .split
  .exact⟨ObK.refl y,zp⟩
  .exact⟨⟨λ_=>rfl,λi=>q9j Sa0 Sa.size _ _ _ zr i⟩,zp⟩
theorem qc5(y:Ob) (k:Int):ObK (q3s y k).2 y/\(q3s y k).1 < 7:=by
 unfold q3s;split
 .exact⟨ObK.refl y,zp⟩
 .exact⟨⟨λ_=>rfl,λi=>q9j Sa0 Sa.size _ _ _ zr i⟩,zp⟩
theorem qks(y:Ob) (k:Int):(q35 y k).2 < 7:=by
 unfold q35;split
 .show(3:Int) < 7;decide
 .split
  .show(1:Int) < 7;decide
  .show(0:Int) < 7;decide
theorem qog(l:List Ps) (p:Int) (q:Bool) (b:List UInt8):(q10 l p q b).1 < 7:=by
 unfold q10;split
 .show(3:Int) < 7;decide
 .split
  .show(2:Int) < 7;decide
  .split
   .show(1:Int) < 7;decide
   .show(0:Int) < 7;decide
theorem qsa(l:List Ps) (p:Int) (q:Bool):(q44 l p q).2.1 < 7:=by
 unfold q44;split
 .show(3:Int) < 7;decide
 .split
  .show(1:Int) < 7;decide
  .show(0:Int) < 7;decide
theorem q41{s:Ce} {k call v:Int} (h:code < 7):Ext 1 s (q0i s k call code v):=q9g (by rintro(⟨e,_⟩ | ⟨e,_⟩) <;> simp only at e <;> omega)
theorem q0d{s:Ce} {k:Nat} {y:St} (h:code < 7):Ext 1 s (q0n s k y code):=q41 h
theorem qiu{s:Ce} {k kd:Nat} {call v:Int} (hkd:(kd:Int)=if code=8 then 2 else 1):Ext 2 s (q1c (q0i s k call code v) kd k):=by
 have hr:=qi7 s.cf.acts.l kd;have hw:wrap64 (-1 - (kd:Int)) = -1 - (kd:Int):=by unfold wrap64;split at hkd <;> omega
 have h0:=qc0 (q0i s k call code v) kd k;refine Ext.trans0 (n:=2) (s':=q0i (q0i s k call code v) k (wrap64 (-1 - (kd:Int))) (q6p s.cf.acts.l kd) 0) ⟨rfl,rfl,rfl,rfl,rfl,rfl,⟨[⟨s.part,s.win,k,call,code,v⟩,⟨s.part,s.win,k,wrap64 (-1 - (kd:Int)),q6p s.cf.acts.l kd,0⟩],?_,zp,q3g.two ⟨rfl,rfl,?_,?_⟩ ?_ rfl rfl⟩,rfl,rfl,rfl,λ_ h=>h,λh=>⟨h.p,h.q,h.l,h.cq,h.cl⟩,⟨λ_ h=>h,λ_ h=>h⟩⟩ h0
 .show(s.evs ++ [_]) ++ [_]=_;rw[List.append_assoc];rfl
 .show wrap64 _=_;rw[hw,hkd];rfl
 .show q6p _ _=_;rw[hkd];rfl
 .rintro(⟨e,_⟩ | ⟨e,_⟩) <;> simp only at e <;> omega
theorem q8j{s:Ce} {k:Nat} {y:St} : Ext 2 s (qet s k y):=qiu (kd:=2) zp
theorem qoh{s:Ce} {k:Nat} {y:St} (hk:k < s.tab.length) (hs:s.slk≠none):Ext 1 s (qaa s k y):=by
 unfold qaa;dsimp only;split
 .exact q0d zd
 .split
  .have h:=q8h (s:=s) (k:=k) (st:=4);exact(h.trans (q7x (by rw[h.tb];exact hk) hs)).mono zo
  .split
   .exact(q0d (k:=k) (y:=y) zd).trans0 (q8h (k:=k) (st:=3))
   .split
    .exact q0d zd
    .have h:=qdf (s:=s) (k:=k) (call:=y.call) (what:=0) (wake:=wrap64 (s.win + y.a));exact(h.trans (q7x (by rw[h.tb];exact hk) hs)).mono zo
theorem qhc{s:Ce} {k:Nat} {y:St} (hk:k < s.tab.length) (hs:s.slk≠none):Ext 1 s (q4a s k y):=by
 unfold q4a;dsimp only;split
 .exact qoh hk hs
 .split
  .exact q0d zd
  .split
   .exact q0d zd
   .split
    .exact(qip.trans (q0d zd)).mono zo
    .split
     .exact(q8h.trans (q0d zd)).mono zo
     .split
      .exact((q4t _ _ _).trans (q0d zd)).mono zo
      .split
       .exact((q6f _ _).trans (q0d zd)).mono zo
       .exact q0d zd
theorem q7z{s:Ce} {k:Nat} {y:St} {b:List UInt8} : Ext 1 s (q7i s k y b):=by
 unfold q7i;split
 .exact q0d zd
 .exact((q5b (k:=k) (t:={ atD Tk0 s.tk k with addr:=y.b,data:=b }) rfl).trans0 qdf).mono zo
theorem q6i{s:Ce} {k:Nat} {y:St} {size:Int} : Ext 2 s (q3c s k y size).2.2:=by
 unfold q3c;split
 .exact(q0d zd).mono zo
 .dsimp only;split
  .exact(Ext.refl s).mono zo
  .exact q8j
theorem qhd{s:Ce} {k:Nat} {y:St} {b:List UInt8} (h:code < 7):Ext 1 s (qn3 s k y b code):=by
 unfold qn3;split
 .exact(q4u.trans (q41 zd)).mono zo
 .split
  .exact q0d h
  .exact q7z
theorem qhe{s:Ce} {k:Nat} {y:St} : Ext 3 s (q3d s k y):=by
 unfold q3d;dsimp only;split
 .exact(q0d zd).mono zo
 .split
  .split
   .exact q8j.mono zo
   .obtain⟨k1,k2⟩:=q9i s.pts y.a (decide (y.call=11\/y.call=12));exact((q8g k1 k2).trans (qhd (qsa _ _ _))).mono zo
  .have hf:=q6i (s:=s) (k:=k) (y:=y) (size:=q1m s.pts y.a);generalize q3c s k y (q1m s.pts y.a)=r at *;split
   .exact hf.mono zo
   .split
    .obtain⟨k1,k2⟩:=q63 r.2.2.pts y.a false r.1;exact(hf.trans ((q8g k1 k2).trans (q0d (qog _ _ _ _)))).mono zo
    .split
     .obtain⟨k1,k2⟩:=q63 r.2.2.pts y.a true r.1;exact(hf.trans ((q8g k1 k2).trans (q0d zd))).mono zo
     .exact(hf.trans q7z).mono zo
theorem qfo{s:Ce} {k:Nat} {y:St} (h:code < 7):Ext 1 s (q8q s k y code):=by
 unfold q8q;split
 .exact q7z
 .exact q0d h
theorem qfp{call p:Int} {s s':Ce} (h:q1q call p s=some s'):Ext 1 s s':=by
 unfold q1q at h;split at h
 .cases h
 .injection h with h
  rw[<- h];exact q18 zd zd
theorem qfq{p:Int} {b:List UInt8} {s s':Ce} (h:q1r p b s=some s'):Ext 1 s s':=by
 unfold q1r at h;split at h
 .cases h
 .injection h with h
  rw[<- h];exact q6h
theorem qkt{s:Ce} {k:Nat} {y:St} : Ext (s.tab.length + 2) s (q0y s k y):=by
 unfold q0y;dsimp only;split
 .obtain⟨k1,k2⟩:=qc2 s.obs y.a;exact((q5g k1).trans (qfo k2)).mono zo
 .split
  .split
   .exact((q0d zd).trans (q18 zd zd)).mono zo
   .obtain⟨k1,k2⟩:=qc3 s.obs y.a;exact((q5g k1).trans (q0d k2)).mono zo
  .split
   .obtain⟨k1,k2⟩:=q8i s.obs y.a true;exact(((q5g k1).trans (q0d k2)).trans (q7w (λ_ _=>qfp) _ _)).mono (by show _ + (s.tab.length + 1)<=_;omega)
   .split
    .obtain⟨k1,k2⟩:=q8i s.obs y.a false;exact((q5g k1).trans (q0d k2)).mono zo
    .refine(qfo ?_).mono zo;split
     .decide
     .exact qs9 _ _
theorem qku{s:Ce} {p:Int} : Ext 1 s (q5v s p):=by
 unfold q5v;dsimp only;split
 .exact(Ext.refl s).mono zo
 .have k1:=qam s.obs p (atD Tk0 s.tk (q0e s 18 p).toNat).data;split
  .exact(q5g k1).mono zo
  .exact((q5g k1).trans (q18 zd zd)).mono zo
theorem qsb{s:Ce} {k:Nat} {y:St} : Ext 4 s (q8z s k y):=by
 unfold q8z;dsimp only;split
 .exact(q0d zd).mono zo
 .split
  .split
   .exact q8j.mono zo
   .obtain⟨k1,k2⟩:=qfn s.obs y.a;have h:=((q5g k1).trans (qhd (k:=k) (y:=y) (b:=(q3b s.obs y.a).1) k2))
    split
    .exact(h.trans qku).mono zo
    .exact h.mono zo
  .have hf:=q6i (s:=s) (k:=k) (y:=y) (size:=q0t s.obs y.a (-1));generalize q3c s k y (q0t s.obs y.a (-1))=r at *;split
   .exact hf.mono zo
   .split
    .exact(hf.trans ((q0d zd).trans q6h)).mono zo
    .have k1:=qam r.2.2.obs y.a r.1;split
     .exact(hf.trans ((q5g k1).trans (q0d zd))).mono zo
     .exact(hf.trans ((q5g k1).trans q7z)).mono zo
theorem qoi{s:Ce} {k:Nat} {y:St} : Ext (s.tab.length + 4) s (q2h s k y):=by
 unfold q2h;dsimp only;split
 .exact(q0d zd).mono zo
 .split
  .obtain⟨k1,k2⟩:=qc5 s.obs y.a;exact((q5g k1).trans (q0d k2)).mono zo
  .split
   .split
    .exact q8j.mono zo
    .exact(qhd (qks _ _)).mono zo
   .have hf:=q6i (s:=s) (k:=k) (y:=y) (size:=q0t s.obs 0 y.a);generalize q3c s k y (q0t s.obs 0 y.a)=r at *;split
    .exact hf.mono zo
    .obtain⟨k1,k2⟩:=qc4 r.2.2.obs y.a r.1;have h2:=hf.trans ((q5g k1).trans (q0d (k:=k) (y:=y) k2));exact(h2.trans (q7w (λ_ _=>qfq) _ _)).mono (by rw[h2.tb];omega)
theorem qkv{s:Ce} {k:Nat} {y:St} : Ext 2 s (q59 s k y):=by
 unfold q59;dsimp only;split
 .split
  .exact(q4u.trans q8j).mono zo
  .exact(q4u.trans (q41 zd)).mono zo
 .split
  .exact q8j
  .exact(q41 zd).mono zo
theorem qkw{s:Ce} {k:Nat} {y:St} : Ext 1 s (q5w s k y):=by
 unfold q5w;split
 .exact(q0d zd).trans0 (qdg _)
 .split
  .exact(q0d zd).trans0 (q6x _ _)
  .split
   .exact q0d zd
   .exact q0d zd
theorem q9k{s:Ce} {k:Nat} {y:St} (hk:k < s.tab.length) (hs:s.slk≠none):Ext (s.tab.length + 4) s (q2o s k y):=by
 unfold q2o;split
 .exact(qhc hk hs).mono zo
 .split
  .exact(q41 zd).mono zo
  .split
   .exact qhe.mono zo
   .split
    .exact qkt.mono zo
    .split
     .exact qsb.mono zo
     .split
      .exact qoi
      .split
       .exact((q41 zd).trans (q62 _ 3 _)).mono zo
       .split
        .exact qkv.mono zo
        .split
         .exact(q41 zd).mono zo
         .split
          .exact qkw.mono zo
          .exact(qiu (kd:=1) zp).mono zo
section
variable{W w0:World} {o0:Gh} {pt c p:Nat} {s:Ce} {n:Nat} {w:World} {o:Gh} {x:Cx}
theorem Nw.step(N:Nw W w0 o0 pt c p s n w o x) (y:St):∃ o',Nw W (w.alloc (.cells (St.lw y) 81)) o' pt c p s n (w.alloc (.cells (St.lw y) 81)) o' x/\q1t (w.alloc (.cells (St.lw y) 81)) o' .data w.heap.size 81 (St.lw y)/\Mv (PaL pt) o0 w0 o' (w.alloc (.cells (St.lw y) 81)):=by
 obtain⟨o',N',hl,m,_⟩:=N.box (w':=w.alloc (.cells (St.lw y) 81)) zv;exact⟨o',N',⟨Blk.new _ _ _,hl _ nL⟩,m⟩
theorem Nw.dr(N:Nw W w0 o0 pt c p s n w o x):Nw W w0 o0 pt c p s n w.drew o x:=N.blw bR.drew
theorem Nw.tell(N:Nw W w0 o0 pt c p s (1 + n) w o x) {k:Nat} {y1 y2 y3 y4 y5 y6 code:Int} : cP 342 #[pp c,ii k,.agg #[ii y1,ii y2,ii y3,ii y4,ii y5,ii y6],ii code] w λe w'=>q6q W w0 o0 pt c p (q0i s k y2 code 0) n (.tuple #[]) e w':=by
 obtain⟨o1,N,kb,m1⟩:=N.step ⟨y1,y2,y3,y4,y5,y6⟩;refine inC ?_;go_in;go_upto_region 1 with fail;generalize w.alloc (.cells #[ii y1,ii y2,ii y3,ii y4,ii y5,ii y6] 81)=w1 at *;generalize w.heap.size=g at *;obtain⟨kc,lg⟩:=kb.1.cl;go_wp2_with (go_at_call 288;refine(N.note).mono ?_;rintro _ w2 ⟨rfl,N1⟩);go_returns;exact⟨rfl,N1.from m1⟩
theorem Nw.has(N:Nw W w0 o0 pt c p s n w o x) {k:Int} : cP 341 #[pp c,ii k] w λe w'=>e = .returned (.bool (q2r s.tk k))/\w=w':=by
 have lt:=N.lt;have c14:=N.R.c14;refine inC ?_;go_in;go_wp2_with fail
 all_goals (go_returns;exact⟨q5k (by unfold q2r;simp;omega),rfl⟩)
theorem Nw.sleep(N:Nw W w0 o0 pt c p s (1 + n) w o x) {k:Nat} (hk:k < s.tk.length) {y:St} : cP 340 #[pp c,ii k,.agg (St.lw y)] w λe w'=>q6q W w0 o0 pt c p (qaa s k y) n (.tuple #[]) e w':=by
 obtain⟨o1,N,kb,m1⟩:=N.step y;have h5:k < s.cf.procs.l.length:=Nat.lt_of_lt_of_le hk N.Y.pr;have h2:i64 (k:Int):=by have:=N.Y.H.n8;unfold i64;omega
 obtain⟨sb,so,hA,hsb,h3⟩:=(q8y.keep N.Y.H.cf.2.1 N.Y.B.b).1.at_ Pc0 h5;have s1:(w.alloc (.cells (St.lw y) 81)).cell? ⟨sb,so + k * 3 + 1,none⟩=some (ii (atD Pc0 s.cf.procs.l k).per):=h3 1 _ rfl;have c1:=N.R.cell 1;have lt:=N.lt;rw[hA]at c1
 have hE:qaa s k y=qaa s k y:=rfl
 conv at hE=>rhs;unfold qaa
 have HE:=zhd hE;have HK:=zhd hk;have h0:=zhd h2;generalize (atD Pc0 s.cf.procs.l k).per=per at *;clear h3 hA hk h2 hE;refine inC ?_;go_in;go_upto_region 1 with fail;generalize w.alloc (.cells (St.lw y) 81)=w1 at *;generalize w.heap.size=g at *;obtain⟨kc,lg⟩:=kb.1.cl;have h1:=N.R.c15;have h4:=N.R.c13;go_wp2_with (first
  | (go_at_call 342;refine(N.tell).mono ?_;rintro _ w2 ⟨rfl,_,_,N⟩);have lt:=N.lt;have h1:=N.R.c15
  | (go_at_call 331;refine(N.tset h0.out).mono ?_;rintro _ w2 ⟨rfl,N⟩);have lt:=N.lt
  | (go_at_call 298;refine(N.rest (k:=k) HK.out).mono ?_;rintro _ w2 ⟨rfl,_,_,N⟩);have lt:=N.lt
  | (refine zD 14 λK' hK'=>?_;go_wp2_with fail;go_at_call 385;refine(N.dr.twait h0.out).mono ?_;rintro _ w2 ⟨rfl,N⟩;refine zE ?_;clear hK' K');have lt:=N.lt)
 all_goals go_returns
 all_goals refine⟨rfl,?_⟩
 all_goals refine N.fin m1 zo (HE.out.trans ?_)
 all_goals clear kc c1 s1 h1 h4 lg kb HE
 all_goals first | (simp[q0n, *];done) | (simp[q0n, *];intro q;exfalso;(try simp only[Bool.not_eq_true',Bool.not_eq_false',decide_eq_true_eq,decide_eq_false_iff_not]at *);omega)
theorem qz4(v:Int):v=1\/v=2\/v=3\/v=4\/v=5\/v=6\/v=7\/((v == 1)=false/\(v == 2)=false/\(v == 3)=false/\(v == 4)=false/\(v == 5)=false/\(v == 6)=false/\(v == 7)=false):=by simp;omega
theorem Nw.process(N:Nw W w0 o0 pt c p s (1 + n) w o x) {k:Nat} (hk:k < s.tk.length) {y:St} (hy:y.ok):cP 305 #[pp c,ii k,.agg (St.lw y)] w λe w'=>q6q W w0 o0 pt c p (q4a s k y) n (.tuple #[]) e w':=by
 obtain⟨o1,N,kb,m1⟩:=N.step y;obtain⟨y1,call,a,b,y5,y6⟩:=y;have HI:Hid (i64 a):=hy.2.2.1;have hE:q4a s k ⟨y1,call,a,b,y5,y6⟩=q4a s k ⟨y1,call,a,b,y5,y6⟩:=rfl
 conv at hE=>rhs;unfold q4a q0n
 dsimp only at hE kb N m1 ⊢;have HE:=zhd hE;have HK:=zhd hk;clear hk hE hy;have lt:=N.lt;obtain⟨st,h5⟩:∃ st,st=(q3o s.tab a).1.state:=⟨_,rfl⟩
 rw[<- h5]at HE
 have h7:=zhd h5;clear h5;refine inC ?_;go_in;go_upto_region 1 with fail;generalize w.alloc (.cells #[ii y1,ii call,ii a,ii b,ii y5,ii y6] 81)=w1 at *;generalize w.heap.size=g at *;obtain⟨kc,lg⟩:=kb.1.cl;have h0:=N.R.c15;have h6:=N.R.c13;have h3:∀ (w:World) (o:Gh) (x:Cx),Nw W w1 o1 pt c p s (1 + n) w o x->cP 343 #[pp x.t,ii a] w λe w'=>e = .returned (ii st)/\Nw W w1 o1 pt c p s (1 + n) w' o x:=λ_ _ _ N=>by rw[h7.out];exact N.tstate HI.out
 have h2:∀ (w:World) (o:Gh) (x:Cx) (win:Int),q2r s.tk a=true->Nw W w1 o1 pt c p s (1 + n) w o x->cP 122 #[pp c,ii a,ii win] w λe w'=>q6q W w1 o1 pt c p (q0m s a.toNat win) (1 + n) (.tuple #[]) e w':=λ_ _ _ _ q N=>by obtain⟨j,hj,h4⟩:=q0o q;rw[hj];exact N.start h4
 have h1:∀ (w:World) (o:Gh) (x:Cx),q2r s.tk a=true->Nw W w1 o1 pt c p s (1 + n) w o x->cP 325 #[pp c,ii a] w λe w'=>q6q W w1 o1 pt c p (q2e s a.toNat) (1 + n) (.tuple #[]) e w':=λ_ _ _ q N=>by obtain⟨j,hj,h4⟩:=q0o q;rw[hj];exact N.stop h4
 have hH:=N.has (k:=a);replace h3:=zhd h3;replace h2:=zhd h2;replace h1:=zhd h1;by_cases q:q2r s.tk a=true
 case neg =>
  have hb:q2r s.tk a=false:=by simpa using q
  rw[hb]at hH HE
  clear hb q;rcases qz4 call with rfl | rfl | rfl | rfl | rfl | rfl | rfl | ⟨b1,b2,b3,b4,b5,b6,b7⟩
  all_goals go_wp2_with (first
   | (go_at_call 340;refine(N.sleep (y:=⟨_,_,_,_,_,_⟩) HK.out).mono ?_;rintro _ w2 ⟨rfl,_,_,N⟩);have lt:=N.lt
   | (go_at_call 342;refine(N.tell).mono ?_;rintro _ w2 ⟨rfl,_,_,N⟩);have lt:=N.lt;have h0:=N.R.c15
   | (go_at_call 341;refine(hH).mono ?_;rintro _ w2 ⟨rfl,rfl⟩))
  all_goals go_returns
  all_goals refine⟨rfl,?_⟩
  all_goals refine N.fin m1 zo (HE.out.trans ?_)
  all_goals try simp only[beq_eq_false_iff_ne,ne_eq]at *
  all_goals simp[*]
 have HQ:=zhd q;rw[q]at hH HE
 clear q;rcases qz4 call with rfl | rfl | rfl | rfl | rfl | rfl | rfl | ⟨b1,b2,b3,b4,b5,b6,b7⟩
 all_goals go_wp2_with (first
   | (go_at_call 340;refine(N.sleep (y:=⟨_,_,_,_,_,_⟩) HK.out).mono ?_;rintro _ w2 ⟨rfl,_,_,N⟩);have lt:=N.lt
   | (go_at_call 342;refine(N.tell).mono ?_;rintro _ w2 ⟨rfl,_,_,N⟩);have lt:=N.lt;have h0:=N.R.c15
   | (go_at_call 341;refine(hH).mono ?_;rintro _ w2 ⟨rfl,rfl⟩)
   | ((with_reducible refine qe4 [(6,2)] ?_);simp only[q03,tkO,dpO];(repeat(go_big_quiet_step (fail)));refine qwB (λK' hK'=>?_);go_wp2_with fail;go_at_call 343;refine(h3.out _ _ _ N.dr).mono ?_;rintro _ w2 ⟨rfl,N⟩;refine hK' _ _ rfl ?_;clear hK' K';(try simp only[q03,tkO,dpO]);(repeat(go_big_quiet_step (fail)));refine wpQuiet_nil ?_);have lt:=N.lt;have h0:=N.R.c15;have h6:=N.R.c13;obtain⟨kc,lg⟩:=(kb.go N.M PaL.nd).1.cl
   | ((with_reducible refine qe4 [(8,2)] ?_);simp only[q03,tkO,dpO];(repeat(go_big_quiet_step (fail)));refine qwB (λK' hK'=>?_);go_wp2_with fail;go_at_call 344;refine(N.dr.trank HI.out).mono ?_;rintro _ w2 ⟨rfl,N⟩;refine hK' _ _ rfl ?_;clear hK' K';(try simp only[q03,tkO,dpO]);(repeat(go_big_quiet_step (fail)));refine wpQuiet_nil ?_);have lt:=N.lt;obtain⟨kc,lg⟩:=(kb.go N.M PaL.nd).1.cl
   | ((with_reducible refine qe4 [(6,2)] ?_);simp only[q03,tkO,dpO];(repeat(go_big_quiet_step (fail)));refine qwB (λK' hK'=>?_);go_wp2_with fail;go_at_call 331;refine(N.dr.tset HI.out).mono ?_;rintro _ w2 ⟨rfl,N⟩;refine hK' _ _ rfl ?_;clear hK' K';(try simp only[q03,tkO,dpO]);(repeat(go_big_quiet_step (fail)));refine wpQuiet_nil ?_);have lt:=N.lt;obtain⟨kc,lg⟩:=(kb.go N.M PaL.nd).1.cl
   | ((with_reducible refine qe4 [(7,2)] ?_);simp only[q03,tkO,dpO];(repeat(go_big_quiet_step (fail)));refine qwB (λK' hK'=>?_);go_wp2_with fail;go_at_call 122;refine(h2.out _ _ _ _ HQ.out N.dr).mono ?_;rintro _ w2 ⟨rfl,_,_,N⟩;refine hK' _ _ rfl ?_;clear hK' K';(try simp only[q03,tkO,dpO]);(repeat(go_big_quiet_step (fail)));refine wpQuiet_nil ?_);have lt:=N.lt;obtain⟨kc,lg⟩:=(kb.go N.M PaL.nd).1.cl
   | (go_at_call 325;refine(h1.out _ _ _ HQ.out N).mono ?_;rintro _ w2 ⟨rfl,_,_,N⟩);have lt:=N.lt;obtain⟨kc,lg⟩:=(kb.go N.M PaL.nd).1.cl)
 all_goals go_returns
 all_goals refine⟨rfl,?_⟩
 all_goals refine N.fin m1 zo (HE.out.trans ?_)
 all_goals clear HE h2 h1 h3 kc lg h0 h6
 all_goals try simp only[beq_iff_eq,bne_iff_ne,beq_eq_false_iff_ne,bne_eq_false_iff_eq,ne_eq]at *
 all_goals first | (simp[*];done) | (simp[*];intros;omega)
end
section
variable{W w0:World} {o0:Gh} {pt c p:Nat} {s:Ce} {n:Nat} {w:World} {o:Gh} {x:Cx}
theorem Nw.mstore(N:Nw W w0 o0 pt c p s n w o x) {a:Int} (ha:i64 a) {D:Option Addr} {m d:Nat} {b:List UInt8} (hb:SlB w D m d b):cP 333 #[pp x.g,ii a,.slice D m d] w λe w'=>e = .returned (.bool (Me.storeR s.segs s.bs a b).2)/\Nw W w0 o0 pt c p (q3t s a b) n w' o x :=
 (Me.store_any N.R.me.1 ha hb).mono λ_ _ h=>⟨h.1,N.zero.go q4u (N.R.me.mv h.2.2) (by rintro _ rfl;rfl) rfl (N.R.setMem (N.R.me.mv h.2.2) h.2.1)⟩
theorem Nw.mput(N:Nw W w0 o0 pt c p s n w o x) {a z:Int} (ha:i64 a) (hz:i64 z):cP 367 #[pp x.g,ii a,ii z] w λe w'=>e = .returned (.bool (Me.storeR s.segs s.bs a (Me.putB z)).2)/\Nw W w0 o0 pt c p (q3t s a (Me.putB z)) n w' o x :=
 (Me.put_any N.R.me.1 ha hz).mono λ_ _ h=>⟨h.1,N.zero.go q4u (N.R.me.mv h.2.2) (by rintro _ rfl;rfl) rfl (N.R.setMem (N.R.me.mv h.2.2) h.2.1)⟩
theorem Nw.may(N:Nw W w0 o0 pt c p s n w o x) {a z:Int} {wr:Bool} (ha:i64 a) (hz:i64 z):cP 386 #[pp x.g,ii a,ii z,.bool wr] w λe w'=>e = .returned (.bool (Me.fdF s.segs s.bs a z wr).isSome)/\Nw W w0 o0 pt c p s n w' o x :=
 (Me.may_any N.R.me.1 ha hz).mono λ_ _ h=>⟨h.1,N.blw h.2⟩
theorem Nw.word(N:Nw W w0 o0 pt c p s n w o x) {a:Int} (ha:i64 a):cP 366 #[pp x.g,ii a] w λe w'=>e = .returned (.tuple #[ii (Me.val4 (Me.loadR s.segs s.bs a 4).1),.bool (Me.loadR s.segs s.bs a 4).2])/\Nw W w0 o0 pt c p s n w' o x :=
 (Me.word_any N.R.me.1 ha).mono λ_ _ h=>⟨h.1,N.blw h.2⟩
def qz5(W w0:World) (o0:Gh) (pt c p:Nat) (s:Ce) (n:Nat) (x:Cx) (l:List UInt8) (is:Bool) (e:Ending) (w':World):Prop:=∃ A d o',e = .returned (.tuple #[.slice A l.length d,.bool is])/\Nw W w0 o0 pt c p s n w' o' x/\Dat w' o' ⟨A,d,l⟩
theorem Nw.load(N:Nw W w0 o0 pt c p s n w o x) {a z:Int} (ha:i64 a) (hz:i64 z):cP 387 #[pp x.g,ii a,ii z] w λe w'=>qz5 W w0 o0 pt c p s n x (Me.loadR s.segs s.bs a z).1 (Me.loadR s.segs s.bs a z).2 e w':=by
 refine(Me.load_any N.R.me.1 ha hz).mono ?_;rintro _ w' ⟨v,rfl,h1,hb⟩;obtain⟨A,d,rfl,hs,h0⟩:=SlB.of_own h1;obtain⟨o',N',hl,m,_⟩:=N.box hb;exact⟨A,d,o',rfl,N'.from m,hs,λb f hn e=>hl _ (h0 b f e)⟩
theorem Nw.bad(N:Nw W w0 o0 pt c p s (1 + (1 + n)) w o x) {k:Nat} (hk:k < s.tk.length) {y1 y2 y3 y4 y5 y6:Int} : cP 368 #[pp c,ii k,.agg #[ii y1,ii y2,ii y3,ii y4,ii y5,ii y6]] w λe w'=>q6q W w0 o0 pt c p (qet s k ⟨y1,y2,y3,y4,y5,y6⟩) n (.tuple #[]) e w':=by
 obtain⟨o1,N,kb,m1⟩:=N.step ⟨y1,y2,y3,y4,y5,y6⟩;have lt:=N.lt;have HK:=zhd hk;clear hk;refine inC ?_;go_in;go_upto_region 1 with fail;generalize w.alloc (.cells #[ii y1,ii y2,ii y3,ii y4,ii y5,ii y6] 81)=w1 at *;generalize w.heap.size=g at *;obtain⟨kc,lg⟩:=kb.1.cl;go_wp2_with (first
  | (go_at_call 342;refine(N.tell).mono ?_;rintro _ w2 ⟨rfl,_,_,N⟩);have lt:=N.lt
  | (go_at_call 289;refine(N.fault (kd:=2) HK.out zd).mono ?_;rintro _ w2 ⟨rfl,N⟩))
 go_returns;exact⟨rfl,N.from m1⟩
theorem Nw.into(N:Nw W w0 o0 pt c p s (1 + (1 + n)) w o x) {k:Nat} (hk:k < s.tk.length) {y:St} (hy:y.ok) {z:Int} (hz:i64 z):cP 347 #[pp c,ii k,.agg (St.lw y),ii z] w λe w'=>q6q W w0 o0 pt c p (qr4 s k y z) n (.bool (qg9 s y z)) e w':=by
 obtain⟨o1,N,kb,m1⟩:=N.step y;have lt:=N.lt;have HK:=zhd hk;have HI:=zhd (And.intro hy.2.2.2.1 hz);clear hk hz hy;have HE:Hid (qr4 s k y z=if qg9 s y z=true then s else qet s k y):=rfl;obtain⟨M,h0⟩:∃ M,M=qg9 s y z:=⟨_,rfl⟩
 rw[<- h0]at HE
 refine inC ?_;go_in;go_upto_region 1 with fail;generalize w.alloc (.cells (St.lw y) 81)=w1 at *;generalize w.heap.size=g at *;obtain⟨kc,lg⟩:=kb.1.cl;have c16:=N.R.c16;have hM:=λ(w:World) (o:Gh) (x:Cx) (N:Nw W w1 o1 pt c p s (1 + (1 + n)) w o x)=>N.may (wr:=true) HI.out.1 HI.out.2;rw[show(Me.fdF s.segs s.bs y.b z true).isSome=M from h0.symm]at hM
 replace hM:=zhd hM;have HM:=zhd h0;clear h0;go_wp2_with (first
  | (refine zD 7 λK' hK'=>?_;go_wp2_with fail;go_at_call 386;refine(hM.out _ _ _ N.dr).mono ?_;rintro _ w2 ⟨rfl,N⟩;refine zE ?_;clear hK' K');have lt:=N.lt;obtain⟨kc,lg⟩:=(kb.go N.M PaL.nd).1.cl
  | (go_at_call 368;refine(N.bad HK.out).mono ?_;rintro _ w2 ⟨rfl,_,_,N⟩);have lt:=N.lt)
 all_goals go_returns
 .exact⟨q5k (by rw[<- HM.out];simp[*]),N.fin m1 zo (HE.out.trans (if_pos (by simp[*])))⟩
 .exact⟨q5k (by rw[<- HM.out];simp[*]),N.fin m1 zo (HE.out.trans (if_neg (by simp[*])))⟩
theorem Nw.hand(N:Nw W w0 o0 pt c p s n w o x) {k:Nat} (hk:k < s.tk.length) {a:Int} (ha:i64 a) {A:Option Addr} {d:Nat} {b:List UInt8} (hb:Dat w o ⟨A,d,b⟩) (hbn:b.length<=1000) :
  Nw W w0 o0 pt c p (q1d s k { atD Tk0 s.tk k with addr:=a,data:=b }) n ((w.setCell ⟨atN x.tr.qs k,3,none⟩ (ii a)).setCell ⟨atN x.tr.qs k,4,none⟩ (.slice A b.length d)) o x:=by
 obtain⟨hp,hd,T⟩:=N.R.tk k hk;have m2:Mv (λy=>y = .task pt k) o w o ((w.setCell ⟨atN x.tr.qs k,3,none⟩ (ii a)).setCell ⟨atN x.tr.qs k,4,none⟩ (.slice A b.length d)):=((Mv.refl (λy=>y = .task pt k) o w).setC (q:=atN x.tr.qs k) (λ_=>T.k.2) 3 _).setC (q:=atN x.tr.qs k) (λ_=>T.k.2) 4 _;exact N.zero.go (q5b rfl) m2 (by rintro _ rfl;rfl) rfl (N.R.setTk (hp:=hp) (hd:=⟨A,d,b⟩) hk m2 ⟨(T.k.set 3 (ii a)).set 4 (.slice A b.length d),T.p.go m2 zp,T.pl,hb.go m2 zp,rfl,T.at_,T.n,ha,hbn⟩)
theorem Nw.wait(N:Nw W w0 o0 pt c p s (1 + n) w o x) {k:Nat} (hk:k < s.tk.length) {y:St} (hy:y.ok) {A:Option Addr} {d:Nat} {b:List UInt8} (hb:Dat w o ⟨A,d,b⟩) (hbn:b.length<=1000):cP 352 #[pp c,ii k,.agg (St.lw y),.slice A b.length d] w λe w'=>q6q W w0 o0 pt c p (q7i s k y b) n (.tuple #[]) e w':=by
 have h3:i64 (k:Int):=by have:=N.Y.H.n8;unfold i64;omega
 obtain⟨o1,N1,hl,m1,m0⟩:=N.box (w':=w.alloc (.cells (St.lw y) 81)) zv;have kb:q1t (w.alloc (.cells (St.lw y) 81)) o1 .data w.heap.size 81 (St.lw y):=⟨Blk.new _ _ _,hl _ nL⟩
 have h8:Dat (w.alloc (.cells (St.lw y) 81)) o1 ⟨A,d,b⟩:=hb.go m0 id;have lt:=N1.lt;have hE:q7i s k y b=q7i s k y b:=rfl
 conv at hE=>rhs;unfold q7i
 have HE:=zhd hE;have HK:=zhd hk;have h5:=zhd h3;have h4:=zhd hbn;have HY:=zhd hy.2.2.2.1;clear h3 hE hk hbn hb hl N;refine inC ?_;go_in;go_upto_region 1 with fail;generalize w.alloc (.cells (St.lw y) 81)=w1 at *;generalize w.heap.size=g at *;have N:=N1;obtain⟨kc,lg⟩:=kb.1.cl;have c13:=N.R.c13;go_wp2_with (first
  | (go_at_call 342;refine(N.tell).mono ?_;rintro _ w2 ⟨rfl,_,_,N⟩);have lt:=N.lt
  | ((with_reducible refine qe4 [] ?_);simp only[q03];(repeat(go_big_quiet_step (fail)));refine wpQuiet_nil ?_);have N:=N.dr;generalize w1.drew=w2 at N ⊢)
 .go_returns;exact⟨rfl,N.fin m1 zo (HE.out.trans (if_pos (by simpa using ‹(y.d == 0)=true›)))⟩
 all_goals have h9:Hid (¬ y.d=0):=by simpa [Hid] using ‹(y.d == 0)=false›
 all_goals
  obtain⟨hp,hd,T⟩:=N.R.tk k HK.out;obtain⟨a,hA,h7,h6⟩:=N.R.task HK.out;have h2:=N.R.c14;rw[hA]at h2
  have h0:o1 a = .tks pt:=N.R.tr.1.2 a hA;clear hA;have tf:=T.k.1.frozen;obtain⟨tc,tl⟩:=T.k.1.cl;have hk:=HK.out;have lt:=N.lt;obtain⟨kc,lg⟩:=(kb.go N.M PaL.nd).1.cl;have n1:¬ g=atN x.tr.qs k:=λe=>by have h1:=(kb.go N.M PaL.nd).2;rw[e,T.k.2]at h1;exact absurd h1 zp
  have n2:¬ c=atN x.tr.qs k:=λe=>by have h1:=N.R.k.2;rw[e,T.k.2]at h1;exact absurd h1 zp
  have n3:¬ a=atN x.tr.qs k:=λe=>by have h1:=h0;rw[e,T.k.2]at h1;exact absurd h1 zp
  (with_reducible refine q88 (λj=>j=atN x.tr.qs k) [(19,0),(2,2)] ?_)
  simp only[q03,tkO,dpO];(repeat(go_big_quiet_step (fail)));refine qwW (λK' hK'=>?_);go_wp2_with fail;refine hK' _ _ rfl (q01 ((fO bR.drew (λj=>j=atN x.tr.qs k)).setCell (p:=⟨atN x.tr.qs k,3,none⟩) (λ_=>rfl) _)) ?_;clear hK' K';(try simp only[tkO,dpO]);(repeat(go_big_quiet_step (fail)));refine qwB (λK' hK'=>?_);have ha:=(T.k.1.drew.set_ 3 (ii y.b)).frozen;go_wp2_with fail;refine hK' _ _ rfl ?_;clear hK' K' ha;(try simp only[q03,tkO,dpO]);(repeat(go_big_quiet_step (fail)));refine wpQuiet_nil ?_;have N:=(N.hand HK.out (a:=y.b) HY.out (h8.go N.M PaL.nd) h4.out).dr
  first | generalize ((w2.setCell ⟨atN x.tr.qs k,3,none⟩ (ii y.b)).setCell ⟨atN x.tr.qs k,4,none⟩ (.slice A b.length d)).drew=w3 at N ⊢ | generalize ((w1.setCell ⟨atN x.tr.qs k,3,none⟩ (ii y.b)).setCell ⟨atN x.tr.qs k,4,none⟩ (.slice A b.length d)).drew=w3 at N ⊢
  have lt:=N.lt;have c15:=N.R.c15;obtain⟨kc,lg⟩:=(kb.go N.M PaL.nd).1.cl;clear tf tc tl h6 h2 n1 n2 n3 h0 T h7;go_wp2_with (refine zD 10 λK' hK'=>?_;go_wp2_with fail;go_at_call 385;refine(N.dr.twait h5.out).mono ?_;rintro _ w2 ⟨rfl,N⟩;refine zE ?_;clear hK' K');go_returns;refine⟨rfl,N.fin m1 zo (HE.out.trans ((if_neg h9.out).trans ?_))⟩
  first | rw[if_pos (show 0 < y.d by assumption)] | rw[if_neg (show ¬ 0 < y.d by omega)]
theorem qsc(Ss:List Me.Sg) (Bs:List (List UInt8)) (a z:Int):(Me.loadR Ss Bs a z).1.length<=z.toNat:=by
 unfold Me.loadR;split
 .exact Nat.zero_le _
 .exact List.length_take_le _ _
def qoj(W w0:World) (o0:Gh) (pt c p:Nat) (r:List UInt8×Bool×Ce) (n:Nat) (e:Ending) (w':World):Prop:=∃ A d o x,e = .returned (.tuple #[.slice A r.1.length d,.bool r.2.1])/\Nw W w0 o0 pt c p r.2.2 n w' o x/\Dat w' o ⟨A,d,r.1⟩/\r.1.length<=1000
theorem Nw.from_(N:Nw W w0 o0 pt c p s (1 + (1 + n)) w o x) {k:Nat} (hk:k < s.tk.length) {y:St} (hy:y.ok) {z:Int} (hz:z<=1000):cP 350 #[pp c,ii k,.agg (St.lw y),ii z] w λe w'=>qoj W w0 o0 pt c p (q3c s k y z) n e w':=by
 obtain⟨o1,N,kb,m1⟩:=N.step y;have lt:=N.lt;have HK:=zhd hk;have HI:=zhd (And.intro hy.2.2.2.1 hy.2.2.2.2.1);have HZ:=zhd hz;clear hk hz hy;have HE:Hid (q3c s k y z=if y.c < 1\/z < y.c then ([],false,q0n s k y 2) else ((Me.loadR s.segs s.bs y.b y.c).1,(Me.loadR s.segs s.bs y.b y.c).2,if (Me.loadR s.segs s.bs y.b y.c).2=true then s else qet s k y)):=rfl;obtain⟨L,hL⟩:∃ L,L=Me.loadR s.segs s.bs y.b y.c:=⟨_,rfl⟩
 rw[<- hL]at HE
 have h1:y.c<=1000->L.1.length<=1000:=λh=>by rw[hL];exact Nat.le_trans (qsc _ _ _ _) zo
 have h0:=zhd h1;clear h1;refine inC ?_;go_in;go_upto_region 1 with fail;generalize w.alloc (.cells (St.lw y) 81)=w1 at *;generalize w.heap.size=g at *;obtain⟨kc,lg⟩:=kb.1.cl;have c16:=N.R.c16;have hM:Hid (∀ (w:World) (o:Gh) (x:Cx) (N:Nw W w1 o1 pt c p s (1 + (1 + n)) w o x),cP 387 #[pp x.g,ii y.b,ii y.c] w λe w'=>qz5 W w1 o1 pt c p s (1 + (1 + n)) x L.1 L.2 e w'):=λw o x N=>by rw[hL];exact N.load HI.out.1 HI.out.2
 clear hL;go_wp2_with (first
  | (go_at_call 342;refine(N.tell).mono ?_;rintro _ w2 ⟨rfl,_,_,N⟩)
  | (refine zD 8 λK' hK'=>?_;go_wp2_with fail;go_at_call 387;refine(hM.out _ _ _ N.dr).mono ?_;rintro _ w2 ⟨A,d,_,rfl,N,hD⟩;refine zE ?_;clear hK' K');have lt:=N.lt;obtain⟨kc,lg⟩:=(kb.go N.M PaL.nd).1.cl;have kb:=kb.go N.M PaL.nd;have m1:=m1.trans N.M;have N:=N.self
  | (go_at_call 368;refine(N.bad HK.out).mono ?_;rintro _ w2 ⟨rfl,_,_,N⟩))
 all_goals go_returns
 .rw[HE.out,if_pos (by assumption)];exact⟨none,0,_,_,rfl,(N.mono zo).from m1,Dat.nil,Nat.zero_le _⟩
 .have hs:L.2=false:=by simpa using ‹(!L.2)=true›
  rw[HE.out,if_neg zo,hs];exact⟨A,d,_,_,rfl,N.from m1,hD.go N.M PaL.nd,h0.out (by have:=HZ.out;omega)⟩
 .have hs:L.2=true:=by simpa using ‹(!L.2)=false›
  rw[HE.out,if_neg zo,hs];exact⟨A,d,_,_,rfl,(N.mono zo).from m1,hD,h0.out (by have:=HZ.out;omega)⟩
 .rw[HE.out,if_pos (.inl (by assumption))];exact⟨none,0,_,_,rfl,(N.mono zo).from m1,Dat.nil,Nat.zero_le _⟩
theorem Nw.got(N:Nw W w0 o0 pt c p s (1 + n) w o x) {k:Nat} (hk:k < s.tk.length) {y:St} (hy:y.ok) {A:Option Addr} {d:Nat} {b:List UInt8} (hb:Dat w o ⟨A,d,b⟩) {code:Int} : cP 349 #[pp c,ii k,.agg (St.lw y),.slice A b.length d,ii code] w λe w'=>q6q W w0 o0 pt c p (qn3 s k y b code) n (.bool (decide (code=0))) e w':=by
 obtain⟨o1,N,hl,m1,m0⟩:=N.box (w':=w.alloc (.cells (St.lw y) 81)) zv;have kb:q1t (w.alloc (.cells (St.lw y) 81)) o1 .data w.heap.size 81 (St.lw y):=⟨Blk.new _ _ _,hl _ nL⟩
 have h0:Dat (w.alloc (.cells (St.lw y) 81)) o1 ⟨A,d,b⟩:=hb.go m0 id;have lt:=N.lt;have HK:=zhd hk;have HY:=zhd hy;have HE:Hid (qn3 s k y b code=if code=0 then q0i (q3t s y.b b) k y.call 0 b.length else if y.call=10 then q0n s k y code else q7i s k y []):=rfl;clear hk hy hb hl;refine inC ?_;go_in;go_upto_region 1 with fail;generalize w.alloc (.cells (St.lw y) 81)=w1 at *;generalize w.heap.size=g at *;obtain⟨kc,lg⟩:=kb.1.cl;have c16:=N.R.c16;go_wp2_with (first
  | (go_at_call 342;refine(N.tell).mono ?_;rintro _ w2 ⟨rfl,_,_,N⟩)
  | (refine zD 7 λK' hK'=>?_;go_wp2_with fail;go_at_call 333;refine(N.dr.mstore HY.out.2.2.2.1 (h0.go N.dr.M PaL.nd).1).mono ?_;rintro _ w2 ⟨rfl,N⟩;refine zE ?_;clear hK' K');have lt:=N.lt;obtain⟨kc,lg⟩:=(kb.go N.M PaL.nd).1.cl
  | (go_at_call 288;refine(N.note).mono ?_;rintro _ w2 ⟨rfl,_,_,N⟩)
  | (go_at_call 352;refine(N.wait (y:=⟨_,_,_,_,_,_⟩) HK.out HY.out Dat.nil (Nat.zero_le _)).mono ?_;rintro _ w2 ⟨rfl,_,_,N⟩))
 all_goals go_returns
 all_goals try simp only[beq_iff_eq,beq_eq_false_iff_ne,ne_eq]at *
 .exact⟨q5k (by simp[*]),N.fin m1 zo (HE.out.trans (if_pos (by assumption)))⟩
 .exact⟨q5k (by simp[*]),N.fin m1 zo (HE.out.trans ((if_neg (by assumption)).trans (if_pos (by assumption))))⟩
 .exact⟨q5k (by simp[*]),N.fin m1 zo (HE.out.trans ((if_neg (by assumption)).trans (if_neg (by assumption))))⟩
end
end Go.Proofs.YtncfcbohiodnnaaGreat
