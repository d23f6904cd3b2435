/- Parts of this seat's claims. -/
import Derived.Test.YtncfcbohiodnnaaGreatWX17
set_option maxRecDepth 100000
set_option maxHeartbeats 6400000
namespace Go.Proofs.YtncfcbohiodnnaaGreat
open Go.RowKit
variable{w w' W wa wo W':World}{c n pt r B j b m mb q base cap id B0:Nat}{A:Option Addr}{a code what:Int}{cs:Array Value}
structure Rdy(W w:World)(o:Gh)(s:Ce)(n:Nat):Prop where
 H:Sta W s
 B:Bas W w o
 l:s.tab.length=s.tk.length
 sl:s.slk≠none
 h:s.tk.length<=s.sk.has.length
 e:s.evs.length+n<=99999990000
 d:DN s
 z:Sz s
 pr:s.tk.length<=s.cf.procs.l.length
theorem Rdy.mono{o:Gh}{s:Ce}(Y:Rdy W w o s n)(h:m<=n):Rdy W w o s m:=⟨Y.H,Y.B,Y.l,Y.sl,Y.h,Zb (Nat.add_le_add_left h _) Y.e,Y.d,Y.z,Y.pr⟩
theorem Rdy.go{o o':Gh}{s s':Ce}{L:Lb->Prop}(Y:Rdy W w o s (j+n))(E:Ext j s s')(M:Mv L o w o' w')(hL:¬L .free):Rdy W w' o' s' n:=by
 refine⟨E.sta Y.H,Y.B.go M hL,by rw[E.tb,E.tk];exact Y.l,λq=>?_,by rw[E.tk,E.sh];exact Y.h,?_,E.dn Y.l Y.d,E.z Y.z,by rw[E.tk,E.cf];exact Y.pr⟩;{have h:=E.so;rw[q]at h;obtain⟨y,hy⟩:=Qm.1 Y.sl;rw[hy]at h;cases h}
 .have h1:=E.len;have h2:=Y.e
  calc s'.evs.length+n<=s.evs.length+j+n:=Nat.add_le_add_right h1 n
   _=s.evs.length+(j+n):=Qh _ _ _
   _<=_:=h2
theorem Rdy.note{o o':Gh}{s:Ce}{L:Lb->Prop}(Y:Rdy W w o s (1+n))(k call code v:Int)(M:Mv L o w o' w')(hL:¬L .free):Rdy W w' o' (q0i s k call code v) n:=by refine⟨Y.H.note _ _ _ _,Y.B.go M hL,Y.l,Y.sl,Y.h,?_,Y.d,⟨Y.z.p,Y.z.q,Y.z.l,Y.z.cq,Y.z.cl⟩,Y.pr⟩;have h2:=Y.e;show(s.evs ++ [_]).length+n<=_;rw[Ze,ZK,Qh];exact h2
structure Nw(W w0:World)(o0:Gh)(pt c p:Nat)(s:Ce)(n:Nat)(w:World)(o:Gh)(x:Cx):Prop where
 M:Mv (zb pt) o0 w0 o w
 hx:Hid (x.p=p)
 Y:Rdy W w o s n
 R:CeR w o pt c x s
def xj(W w0:World)(o0:Gh)(pt c p:Nat)(s:Ce)(n:Nat)(w:World):Prop:=∃o x,Nw W w0 o0 pt c p s n w o x
def q6q(W w0:World)(o0:Gh)(pt c p:Nat)(s:Ce)(n:Nat)(v:Value)(e:Ending)(w':World):Prop:=e=.returned v/\xj W w0 o0 pt c p s n w'
section
variable{W w0:World}{o0:Gh}{pt c p:Nat}{s:Ce}{n:Nat}{w:World}{o:Gh}{x:Cx}
theorem xj.mono(N:xj W w0 o0 pt c p s n w)(h:m<=n):xj W w0 o0 pt c p s m w:=by obtain⟨o,x,N⟩:=N;exact⟨o,x,N.M,N.hx,N.Y.mono h,N.R⟩
theorem Nw.now(N:Nw W w0 o0 pt c p s n w o x):xj W w0 o0 pt c p s n w:=⟨o,x,N⟩
theorem Nw.lt(N:Nw W w0 o0 pt c p s n w o x):c<w.heap.size:=N.R.k.1.lt
theorem Nw.al{g:Nat}{t:TypeId}(N:Nw W w0 o0 pt c p s n w o x)(k:q1t w0 o0 .data g t cs):c<w.heap.size/\(∀i,w.cell? ⟨g,i,none⟩=cs[i]?)/\g<w.heap.size:=⟨N.lt,(k.go N.M zb.nd).1.cl⟩
theorem Nw.blw(N:Nw W w0 o0 pt c p s n w o x)(hb:bW w w'):Nw W w0 o0 pt c p s n w' o x :=
 ⟨N.M.trans (Mv.below hb),N.hx,⟨N.Y.H,N.Y.B.go (L:=λ_=>False) (Mv.below hb) id,N.Y.l,N.Y.sl,N.Y.h,N.Y.e,N.Y.d,N.Y.z,N.Y.pr⟩,N.R.blw hb⟩
theorem Nw.go{s':Ce}{o':Gh}{x':Cx}{L:Lb->Prop}(N:Nw W w0 o0 pt c p s (j+n) w o x)(E:Ext j s s')(m:Mv L o w o' w')(hL:∀l,L l->zb pt l)(hp:x'.p=x.p)(R:CeR w' o' pt c x' s'):Nw W w0 o0 pt c p s' n w' o' x' :=
 ⟨N.M.trans (m.mono hL),hp.trans N.hx.out,N.Y.go E m (λh=>zb.nf (hL _ h)),R⟩
theorem Nw.aft{s':Ce}{v:Value}{e:Ending}(N:Nw W w0 o0 pt c p s (j+n) w o x)(E:Ext j s s')(h:qJ w o pt c x.p s' v e w'):q6q W w0 o0 pt c p s' n v e w':=by obtain⟨h1,o',m,x',hp,R⟩:=h;exact⟨h1,o',x',N.go E m (λ_ h=>h) hp R⟩
theorem Nw.zero(N:Nw W w0 o0 pt c p s n w o x):Nw W w0 o0 pt c p s (0+n) w o x:=by rw[Zp];exact N
theorem Nw.mono(N:Nw W w0 o0 pt c p s n w o x)(h:m<=n):Nw W w0 o0 pt c p s m w o x:=⟨N.M,N.hx,N.Y.mono h,N.R⟩
theorem Nw.box(N:Nw W w0 o0 pt c p s n w o x)(hb:bW w w'):∃o',Nw W w' o' pt c p s n w' o' x/\(∀k,w.heap.size<=k->o' k=.data)/\Mv (zb pt) o0 w0 o' w'/\Mv (λ_=>False) o w o' w':=by have m:Mv (λ_=>False) o w (lay w o .data) w':=Mv.lay .data (fO hb (λ_=>False)) (λ_ _ h=>h.elim);have m2:Mv (zb pt) o w (lay w o .data) w':=m.mono λ_ h=>h.elim;exact⟨_,⟨Mv.refl _ _ _,N.hx,⟨N.Y.H,N.Y.B.go m id,N.Y.l,N.Y.sl,N.Y.h,N.Y.e,N.Y.d,N.Y.z,N.Y.pr⟩,N.R.go m (λ_ h=>h.elim) id⟩,λk hk=>q07 hk,N.M.trans m2,m⟩
theorem Nw.self(N:Nw W w0 o0 pt c p s n w o x):Nw W w o pt c p s n w o x:=⟨Mv.refl _ _ _,N.hx,N.Y,N.R⟩
theorem Nw.from{o1:Gh}{w1:World}(N:Nw W w1 o1 pt c p s n w o x)(m:Mv (zb pt) o0 w0 o1 w1):Nw W w0 o0 pt c p s n w o x:=⟨m.trans N.M,N.hx,N.Y,N.R⟩
theorem xj.from{o1:Gh}{w1:World}(N:xj W w1 o1 pt c p s n w)(m:Mv (zb pt) o0 w0 o1 w1):xj W w0 o0 pt c p s n w:=by obtain⟨o,x,N⟩:=N;exact⟨o,x,N.from m⟩
theorem Nw.fin{s':Ce}{o1:Gh}{w1:World}(N:Nw W w1 o1 pt c p s n w o x)(m1:Mv (zb pt) o0 w0 o1 w1)(h:m<=n)(e:s'=s):xj W w0 o0 pt c p s' m w:=by rw[e];exact(N.mono h).now.from m1
theorem Nw.note(N:Nw W w0 o0 pt c p s (1+n) w o x){k call code v:Int}:cP 288 #[pp c,ii k,ii call,ii code,ii v] w λe w'=>q6q W w0 o0 pt c p (q0i s k call code v) n (.tuple #[]) e w':=by refine(q9f N.R (Zb (QB _ _) (Zb N.Y.e zd))).mono ?_;rintro _ w'⟨rfl,o',m,x',hx,R2⟩;exact⟨rfl,o',x',N.M.trans m,hx.trans N.hx.out,N.Y.note _ _ _ _ m zb.nf,R2⟩
theorem Nw.fault(N:Nw W w0 o0 pt c p s (1+n) w o x){k kd:Nat}(hk:k<s.tk.length)(hkd:kd<5):cP 289 #[pp c,ii kd,ii k] w λe w'=>q6q W w0 o0 pt c p (q1c s kd k) n (.tuple #[]) e w' :=
 (q8f N.R N.Y.H N.Y.B hk hkd (Zb (QB _ _) (Zb N.Y.e zd))).mono λ_ _ h=>N.aft (q62 s kd k) h
theorem Nw.rest(N:Nw W w0 o0 pt c p s n w o x){k:Nat}(hk:k<s.tk.length):cP 298 #[pp c,ii k] w λe w'=>q6q W w0 o0 pt c p (q57 s k) n (.tuple #[]) e w':=by have hl:=N.Y.l;have hh:=N.Y.h;refine(qim N.R hk N.Y.H.n8 N.Y.sl (λy hy=>?_)).mono λ_ _ h=>N.zero.aft (q7x zo N.Y.sl) h;have:s.sk=y:=by{unfold Ce.sk;rw[hy];rfl};rw[this]at hh;omega
theorem Nw.complete(N:Nw W w0 o0 pt c p s (1+n) w o x){k:Nat}{call code v:Int}(hk:k<s.tk.length)(h7:code≠7)(h8:code≠8):cP 292 #[pp c,ii k,ii call,ii code,ii v] w λe w'=>q6q W w0 o0 pt c p (q09 s k call code v) n (.tuple #[]) e w' :=
 (q4b N.R hk N.Y.H.n8 (Zb (QB _ _) (Zb N.Y.e zd))).mono λ_ _ h=>N.aft (q18 h7 h8) h
theorem Nw.arrive(N:Nw W w0 o0 pt c p s (1+n) w o x){k:Nat}{call:Int}{bA:Option Addr}{bn bc:Nat}{b:List UInt8}(hb:SlB w bA bn bc b)(hk:k<s.tk.length):cP 294 #[pp c,ii k,ii call,.slice bA bn bc] w λe w'=>q6q W w0 o0 pt c p (q15 s k call b) n (.tuple #[]) e w' :=
 (qbx N.R hb hk N.Y.H.n8 (Zb (QB _ _) (Zb N.Y.e zd))).mono λ_ _ h=>N.aft q6h h
theorem Nw.start(N:Nw W w0 o0 pt c p s n w o x){k:Nat}{win:Int}(hk:k<s.tk.length):cP 122 #[pp c,ii k,ii win] w λe w'=>q6q W w0 o0 pt c p (q0m s k win) n (.tuple #[]) e w' :=
 (q61 N.R hk N.Y.H.n8).mono λ_ _ h=>N.zero.aft (q4t s k win) h
theorem Nw.stop(N:Nw W w0 o0 pt c p s n w o x){k:Nat}(hk:k<s.tk.length):cP 325 #[pp c,ii k] w λe w'=>q6q W w0 o0 pt c p (q2e s k) n (.tuple #[]) e w' :=
 (q6e N.R hk N.Y.H.n8).mono λ_ _ h=>N.zero.aft (q6f s k) h
theorem Nw.idle(N:Nw W w0 o0 pt c p s n w o x):cP 327 #[pp c] w λe w'=>q6q W w0 o0 pt c p (qes s) n (.tuple #[]) e w' :=
 (qff N.R N.Y.H.n8).mono λ_ _ h=>N.zero.aft (qdg s) h
theorem Nw.restart(N:Nw W w0 o0 pt c p s n w o x){cold:Bool}:cP 326 #[pp c,.bool cold] w λe w'=>q6q W w0 o0 pt c p (q2s s cold) n (.tuple #[]) e w' :=
 (qah N.R N.Y.H N.Y.B).mono λ_ _ h=>N.zero.aft (q6x s cold) h
theorem Nw.tab(N:Nw W w0 o0 pt c p s n w o x){w':World}{l:List Rw}{tn:Int}(E:Ext 0 s {s with tab:=l,tn:=tn})(T:TbR w' x.t x.mb l tn)(f:Fr (qw x.t x.mb) w w'):Nw W w0 o0 pt c p {s with tab:=l,tn:=tn} n w' o x :=
 N.zero.go E (N.R.tb.mv f) (by rintro _ rfl;rfl) rfl (N.R.setTab (N.R.tb.mv f) T)
theorem Nw.tset(N:Nw W w0 o0 pt c p s n w o x){k st:Int}(hk:i64 k):cP 331 #[pp x.t,ii k,ii st] w λe w'=>e=.returned (.bool (setS s.tab s.tn k st).1)/\Nw W w0 o0 pt c p (q6a s (setS s.tab s.tn k st).2) n w' o x :=
 (qcz N.R.tb.1 hk).mono λ_ _ h=>⟨h.1,N.tab q8h h.2.1 h.2.2⟩
theorem Nw.twait(N:Nw W w0 o0 pt c p s n w o x){k call what wake:Int}(hk:i64 k):cP 385 #[pp x.t,ii k,ii call,ii what,ii wake] w λe w'=>e=.returned (.bool (qbb s.tab s.tn k call what wake).1)/\Nw W w0 o0 pt c p (q6a s (qbb s.tab s.tn k call what wake).2) n w' o x :=
 (qmm N.R.tb.1 hk).mono λ_ _ h=>⟨h.1,N.tab qdf h.2.1 h.2.2⟩
theorem Nw.trank(N:Nw W w0 o0 pt c p s n w o x){k prio:Int}(hk:i64 k):cP 344 #[pp x.t,ii k,ii prio] w λe w'=>e=.returned (.bool (qek s.tab k prio).1)/\Nw W w0 o0 pt c p {s with tab:=(qek s.tab k prio).2} n w' o x :=
 (qmn N.R.tb.1 hk).mono λ_ _ h=>⟨h.1,N.tab qip h.2.1 h.2.2⟩
theorem Nw.tstate(N:Nw W w0 o0 pt c p s n w o x){k:Int}(hk:i64 k):cP 343 #[pp x.t,ii k] w λe w'=>e=.returned (ii (q3o s.tab k).1.state)/\Nw W w0 o0 pt c p s n w' o x :=
 (qjl N.R.tb.1 hk).mono λ_ _ h=>⟨h.1,N.blw h.2⟩
theorem Nw.tfirst(N:Nw W w0 o0 pt c p s n w o x){call what:Int}:cP 290 #[pp x.t,ii call,ii what] w λe w'=>e=.returned (ii (q0e s call what))/\Nw W w0 o0 pt c p s n w' o x :=
 (q4o N.R.tb.1).mono λ_ _ h=>⟨h.1,N.blw h.2⟩
end
theorem qp8(l:List Ev):∀u∈l.flatMap Ev.f,u.oneCell'=true:=λu hu=>by
 obtain⟨y,_,hy⟩:=List.mem_flatMap.1 hu;rcases Zx.1 hy with rfl|hy
 .rfl
 .simp only[Zx,ZB,X7]at hy;rcases hy with rfl|rfl|rfl|rfl|rfl <;> rfl
theorem ql4{o:Gh}{x:Cx}{s:Ce}(R:CeR w o pt c x s)(hn:s.evs.length<=100000000000):cP 193 #[pp c] w λe w'=>qo9 w s.evs.length (s.evs.flatMap Ev.f) 67 e w':=by have hD:=q60 R;have c21:=R.c21;have lt:=R.k.1.lt;have hC:=zhd (qkl R.ev.1.sl (qp8 _) hn);clear hn;refine zi ?_;go_wp2_with(first|(go_fit hD;rintro _ _⟨rfl,rfl⟩)| (go_fit hC.out;rintro _ w2⟨A,c',rfl,h⟩));go_returns;exact⟨A,c',rfl,h⟩
end Go.Proofs.YtncfcbohiodnnaaGreat
