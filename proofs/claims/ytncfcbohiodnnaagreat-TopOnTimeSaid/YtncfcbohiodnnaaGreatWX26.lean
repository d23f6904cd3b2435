/- Parts of this seat's claims. -/
import Derived.Test.YtncfcbohiodnnaaGreatWX25
set_option maxRecDepth 100000
set_option maxHeartbeats 6400000
namespace Go.Proofs.YtncfcbohiodnnaaGreat
open Go.RowKit
variable{w w' W wa wo W':World}{c n pt r B j b m mb q base cap id B0:Nat}{A:Option Addr}{a code what:Int}{cs:Array Value}
structure Yx where
 y:Nat
 gx:Gx
 c:Nat->Nat
 x:Nat->Cx
 cA:Option Addr
 cc:Nat
 pA:Option Addr
 pc:Nat
 sb:Nat
 lb:Nat
 la:Nat
 lcap:Nat
 lq:List Nat
 eA:Option Addr
 ec:Nat
 mA:Option Addr
 mc:Nat
 mh:List Mh
 bA:Option Addr
 bc:Nat
 hA:Option Addr
 hc:Nat
 dA:Option Addr
 dc:Nat
 rA:Option Addr
 rc:Nat
 rv:List Value
def qj2(c:Nat->Nat)(n:Nat):List Value:=(List.range n).map λq=>pp (c q)
theorem qoy{c:Nat->Nat}{k:Nat}(h:Sl w A n k 1 (qj2 c n)){q:Nat}(hq:q<n):∃b f,A=some ⟨b,f,none⟩/\b<w.heap.size/\w.cell? ⟨b,f+q,none⟩=some (pp (c q)):=by obtain⟨_,_,_,_,h5⟩:=h;obtain⟨b,f,e,hb,hc⟩:=h5 zo;exact⟨b,f,e,hb,hc q _ (by unfold qj2;simp[hq])⟩
def Yx.cells(x:Yx)(cf:Cf)(s:Sy):Array Value:=#[.slice x.eA s.evs.length x.ec,.slice x.mA x.mh.length x.mc,.slice x.bA s.bounds.length x.bc,nS,ii 0,ii 0,ii 0,ii 0,.slice x.hA s.sheds.length x.hc,.slice x.dA s.modes.length x.dc,.slice x.rA x.rv.length x.rc,ii s.late,pp x.gx.g,cf.parts.hq,cf.chans.hq,cf.modes.hq,cf.pw.levels.hq,cf.pw.naps.hq,ii cf.pw.sw,ii cf.pw.idle,ii cf.pw.change,ii cf.pw.quant,ii cf.pw.slow,ii cf.pw.ppm,cf.shed.down.hq,cf.shed.up.hq,.slice x.cA cf.parts.l.length x.cc,.slice x.pA cf.parts.l.length x.pc,.slice (some ⟨x.sb,0,none⟩) cf.parts.l.length cf.parts.l.length,pp x.lb]
def xA(w:World)(o:Gh)(l:Lb)(A:Option Addr)(n c:Nat)(xs:List Value):Prop:=Sl w A n c 1 xs/\∀b f,0<n->A=some ⟨b,f,none⟩->o b=l
theorem xA.go{L:Lb->Prop}{o o':Gh}{l:Lb}{xs:List Value}(h:xA w o l A n c xs)(m:Mv L o w o' w')(hl:¬L l):xA w' o' l A n c xs :=
 ⟨h.1.fr m.f (λb f hn e h'=>by rw[h.2 b f hn e]at h';exact hl h'),λb f hn e=>(m.a b (by obtain⟨b',f',e',h0,_⟩:=h.1.2.2.2.2 hn;rw[e]at e';cases e';exact h0)).trans (h.2 b f hn e)⟩
structure LdL(w:World)(o:Gh)(lb la lcap:Nat)(lq:List Nat)(cf:Cf)(cy:List Int):Prop where
 H:LdR w lb la lcap lq cf cy
 b:o lb=.sys 3
 a:o la=.sys 3
 q:∀k,k∈lq->o k=.sys 4
 al:la<w.heap.size
theorem LdL.go{L:Lb->Prop}{o o':Gh}{lb la lcap:Nat}{lq:List Nat}{cf:Cf}{cy:List Int}(h:LdL w o lb la lcap lq cf cy)(m:Mv L o w o' w')(h3:¬L (.sys 3))(h4:¬L (.sys 4)):LdL w' o' lb la lcap lq cf cy:=by refine⟨h.H.fr m.f (by rw[h.b];exact h3) (by rw[h.a];exact h3) (λk hk=>by rw[h.q k hk];exact h4),(m.a _ h.H.kb.lt).trans h.b,(m.a _ h.al).trans h.a,λk hk=>(m.a k ?_).trans (h.q k hk),Zg h.al m.f.size⟩;obtain⟨i,hi,rfl⟩:=ZX hk;have:=(h.H.q i (by rw[<- h.H.ql];exact hi)).lt;rwa [show zg lq i=lq[i] by simp[zg,Zo hi]]at this
structure GvL(W w:World)(o:Gh)(x:Gx)(c:Pw)(s:Gv):Prop where
 N:Gn W w w x c s
 l:∀k,GS x k->o k=.sys 1
 f:o x.fb=.sys 2
theorem Gn.lt{w0:World}{x:Gx}{c:Pw}{s:Gv}(N:Gn W w0 w x c s){k:Nat}(h:GS x k):k<w.heap.size:=by rcases h with rfl|rfl|rfl|rfl|rfl;{exact N.k.lt};{exact N.P.b.lt};{exact N.P.m.b.lt};{exact N.P.m.c.lt};{exact N.n.lt}
theorem GvL.go{L:Lb->Prop}{o o':Gh}{x:Gx}{c:Pw}{s:Gv}(h:GvL W w o x c s)(m:Mv L o w o' w')(hf:¬L .free)(hW:∀k,k<W.heap.size->o k=.free)(h1:¬L (.sys 1))(h2:¬L (.sys 2)):GvL W w' o' x c s:=by have g:=λk (hk:GS x k)=>(by rw[h.l k hk];exact h1:¬L (o k));have N:=h.N;refine⟨⟨N.b.trans (m.f.below (λk hk hs=>hf (by rw[hW k hk]at hs;exact hs)) N.b.size),Fr.refl _ _,N.hc,N.k.fr m.f (g _ (.inl rfl)),N.P.fr m.f (g _ (.inr (.inl rfl))) (g _ (.inr (.inr (.inl rfl)))) (g _ (.inr (.inr (.inr (.inl rfl))))),N.f.fr m.f (by rw[h.f];exact h2),N.n.fr m.f (g _ (.inr (.inr (.inr (.inr rfl))))),N.le,N.ne,N.nn,N.nf,N.i,N.nl⟩,λk hk=>(m.a k (N.lt hk)).trans (h.l k hk),(m.a _ N.f.lt).trans h.f⟩
theorem GvL.step{o:Gh}{x:Gx}{c:Pw}{s s':Gv}(h:GvL W w o x c s)(N:Gn W w w' x c s'):Mv (λy=>y=.sys 1) o w o w'/\GvL W w' o x c s' :=
 ⟨Mv.of N.F λk hk=>h.l k hk,⟨⟨N.b,Fr.refl _ _,N.hc,N.k,N.P,N.f,N.n,N.le,N.ne,N.nn,N.nf,N.i,N.nl⟩,h.l,h.f⟩⟩
structure SyR(W w:World)(o:Gh)(cf:Cf)(x:Yx)(s:Sy):Prop where
 B:Bas W w o
 hc:q1k.ok W cf
 k:q1t w o (.sys 0) x.y 112 (x.cells cf s)
 G:GvL W w o x.gx cf.pw s.g
 L:LdL w o x.lb x.la x.lcap x.lq cf s.cy
 R:qo w o x.c x.x s.cs
 cn:s.cs.length=cf.parts.l.length
 ca:xA w o (.sys 3) x.cA cf.parts.l.length x.cc (qj2 x.c cf.parts.l.length)
 pa:xA w o (.sys 3) x.pA cf.parts.l.length x.pc (qc7 x.x cf.parts.l.length)
 sn:s.seen.length=cf.parts.l.length
 se:q1t w o (.sys 5) x.sb 3 (s.seen.map λ(j:Nat)=>(ii (j:Int):Value)).toArray
 ev:q4q w o (.sys 6) 67 6 x.eA s.evs.length x.ec (s.evs.flatMap Ev.f)
 ms:q4q w o (.sys 7) 122 3 x.mA x.mh.length x.mc (x.mh.flatMap Mh.f)
 mg:x.mh.map Mh.g=s.msgs
 md:∀m∈x.mh,j9 w o m.d
 bd:q4q w o (.sys 8) 86 3 x.bA s.bounds.length x.bc (s.bounds.flatMap Bd.f)
 sh:q4q w o (.sys 14) 3 1 x.hA s.sheds.length x.hc (s.sheds.map (.int .i64))
 mo:q4q w o (.sys 15) 3 1 x.dA s.modes.length x.dc (s.modes.map (.int .i64))
 cr:q4q w o (.sys 16) 29 1 x.rA x.rv.length x.rc x.rv
 cv:(∀u∈x.rv,u.oneCell'=true)/\x.rv.length=s.creds.length
section
variable{L:Lb->Prop}{W w w':World}{o o':Gh}{cf:Cf}{x:Yx}{s:Sy}
theorem SyR.blw(S:SyR W w o cf x s)(hb:bW w w'):SyR W w' o cf x s:=by have m:Mv (λ_=>False) o w o w':=Mv.below hb;exact⟨S.B.go m id,S.hc,S.k.go m id,S.G.go m id S.B.l id id,S.L.go m id id,S.R.blw hb,S.cn,S.ca.go m id,S.pa.go m id,S.sn,S.se.go m id,S.ev.go m id,S.ms.go m id,S.mg,λy hy=>(S.md y hy).go m id,S.bd.go m id,S.sh.go m id,S.mo.go m id,S.cr.go m id,S.cv⟩
theorem SyR.laid(S:SyR W w o cf x s){l:Lb}(hb:bW w w'):Mv (λ_=>False) o w (lay w o l) w'/\SyR W w' (lay w o l) cf x s:=by have m:Mv (λ_=>False) o w (lay w o l) w':=Mv.lay (S:=λ_=>False) l (fO hb _) (λ_ _ h=>h.elim);exact⟨m,S.B.go m id,S.hc,S.k.go m id,S.G.go m id S.B.l id id,S.L.go m id id,S.R.go m (λ_ h=>h.elim) id,S.cn,S.ca.go m id,S.pa.go m id,S.sn,S.se.go m id,S.ev.go m id,S.ms.go m id,S.mg,λy hy=>(S.md y hy).go m id,S.bd.go m id,S.sh.go m id,S.mo.go m id,S.cr.go m id,S.cv⟩
theorem SyR.gov(S:SyR W w o cf x s){g:Gv}(N:Gn W w w' x.gx cf.pw g):Mv (λy=>y=.sys 1) o w o w'/\SyR W w' o cf x {s with g:=g}:=by obtain⟨m,G⟩:=S.G.step N;exact⟨m,S.B.go m zp,S.hc,S.k.go m zp,G,S.L.go m zp zp,S.R.go m (by rintro _ rfl;rfl) zp,S.cn,S.ca.go m zp,S.pa.go m zp,S.sn,S.se.go m zp,S.ev.go m zp,S.ms.go m zp,S.mg,λy hy=>(S.md y hy).go m zp,S.bd.go m zp,S.sh.go m zp,S.mo.go m zp,S.cr.go m zp,S.cv⟩
theorem SyR.led(S:SyR W w o cf x s){cy:List Int}(H:LdR w' x.lb x.la x.lcap x.lq cf cy)(f:Fr (xR x.lq) w w'):Mv (λy=>y=.sys 4) o w o w'/\SyR W w' o cf x {s with cy:=cy}:=by have m:Mv (λy=>y=.sys 4) o w o w':=Mv.of f λk hk=>S.L.q k hk;exact⟨m,S.B.go m zp,S.hc,S.k.go m zp,S.G.go m zp S.B.l zp zp,⟨H,S.L.b,S.L.a,S.L.q,Zg S.L.al m.f.size⟩,S.R.go m (by rintro _ rfl;rfl) zp,S.cn,S.ca.go m zp,S.pa.go m zp,S.sn,S.se.go m zp,S.ev.go m zp,S.ms.go m zp,S.mg,λy hy=>(S.md y hy).go m zp,S.bd.go m zp,S.sh.go m zp,S.mo.go m zp,S.cr.go m zp,S.cv⟩
theorem SyR.cell(S:SyR W w o cf x s){p:Nat}(hp:p<cf.parts.l.length)(m:Mv (zb p) o w o' w'){x':Cx}{c':Ce}(hx:x'.p=(x.x p).p)(R:CeR w' o' p (x.c p) x' c'):SyR W w' o' cf {x with x:=λq=>if q=p then x' else x.x q} {s with cs:=s.cs.set p c'}:=by have hs:∀i,¬zb p (.sys i):=λi h=>by{simp[zb,Lb.part]at h};have h0:qc7 (λq=>if q=p then x' else x.x q) cf.parts.l.length=qc7 x.x cf.parts.l.length:=by{unfold qc7;refine List.map_congr_left λq _=>?_;by_cases e:q=p;{subst e;simp[hx]};{simp[e]}};have hR:=S.R.put (by rw[S.cn];exact hp) m (λl h=>h) R;exact⟨S.B.go m zb.nf,S.hc,S.k.go m (hs _),S.G.go m zb.nf S.B.l (hs _) (hs _),S.L.go m (hs _) (hs _),hR,by rw[Zd];exact S.cn,S.ca.go m (hs _),by rw[h0];exact S.pa.go m (hs _),S.sn,S.se.go m (hs _),S.ev.go m (hs _),S.ms.go m (hs _),S.mg,λy hy=>(S.md y hy).go m zb.nd,S.bd.go m (hs _),S.sh.go m (hs _),S.mo.go m (hs _),S.cr.go m (hs _),S.cv⟩
end
section
variable{W w w5:World}{o:Gh}{cf:Cf}{x:Yx}{s:Sy}
theorem SyR.push_ev(S:SyR W w o cf x s){ys:List Ev}{A':Option Addr}{c':Nat}(own:zj w5 67 6 A' (s.evs.length+ys.length) c' (s.evs.flatMap Ev.f++ys.flatMap Ev.f))(hf:Fr (q02 x.eA) w w5)(hat:∀k,q02 A' k->q02 x.eA k\/w.heap.size<=k) :
  ∃o',Mv (λl=>l=.sys 6\/l=.sys 0) o w o' (w5.setCell ⟨x.y,0,none⟩ (.slice A' (s.evs.length+ys.length) c'))/\SyR W (w5.setCell ⟨x.y,0,none⟩ (.slice A' (s.evs.length+ys.length) c')) o' cf {x with eA:=A',ec:=c'} {s with evs:=s.evs++ys}:=by have m1:Mv (λl=>l=.sys 6) o w (lay w o (.sys 6)) w5:=Mv.lay (S:=q02 x.eA) _ hf (λk _ hk=>S.ev.2 k hk);have k9:=S.k.go m1 zp;have m:Mv (λl=>l=.sys 6\/l=.sys 0) o w (lay w o (.sys 6)) (w5.setCell ⟨x.y,0,none⟩ (.slice A' (s.evs.length+ys.length) c')):=(m1.mono λ_ h=>.inl h).setC (λ_=>.inr S.k.2) 0 _;have hL:(s.evs++ys).length=s.evs.length+ys.length:=Ze;have hk:=k9.set 0 (.slice A' (s.evs.length+ys.length) c');rw[<- hL]at hk;refine⟨_,m,⟨S.B.go m zp,S.hc,(by rw[<- hL];exact hk),S.G.go m zp S.B.l zp zp,S.L.go m zp zp,S.R.go m (by rintro _ (rfl|rfl) <;> rfl) zp,S.cn,S.ca.go m zp,S.pa.go m zp,S.sn,S.se.go m zp,?_,S.ms.go m zp,S.mg,λy hy=>(S.md y hy).go m zp,S.bd.go m zp,S.sh.go m zp,S.mo.go m zp,S.cr.go m zp,S.cv⟩⟩;refine⟨?_,λk hk=>?_⟩;{rw[hL,Qn];exact own.fr ((Fr.refl (λk=>k=x.y) w5).setCell (p:=⟨x.y,0,none⟩) (λ_=>rfl) _) (λk hk e=>own.ne k9.1 zd (by rw[<- e];exact hk))};{by_cases h:k<w.heap.size;{exact(q0l h).trans (S.ev.2 k ((hat k hk).resolve_right zo))};{exact q07 zo}}
theorem SyR.push_bd(S:SyR W w o cf x s){ys:List Bd}{A':Option Addr}{c':Nat}(own:zj w5 86 3 A' (s.bounds.length+ys.length) c' (s.bounds.flatMap Bd.f++ys.flatMap Bd.f))(hf:Fr (q02 x.bA) w w5)(hat:∀k,q02 A' k->q02 x.bA k\/w.heap.size<=k) :
  ∃o',Mv (λl=>l=.sys 8\/l=.sys 0) o w o' (w5.setCell ⟨x.y,2,none⟩ (.slice A' (s.bounds.length+ys.length) c'))/\SyR W (w5.setCell ⟨x.y,2,none⟩ (.slice A' (s.bounds.length+ys.length) c')) o' cf {x with bA:=A',bc:=c'} {s with bounds:=s.bounds++ys}:=by have m1:Mv (λl=>l=.sys 8) o w (lay w o (.sys 8)) w5:=Mv.lay (S:=q02 x.bA) _ hf (λk _ hk=>S.bd.2 k hk);have k9:=S.k.go m1 zp;have m:Mv (λl=>l=.sys 8\/l=.sys 0) o w (lay w o (.sys 8)) (w5.setCell ⟨x.y,2,none⟩ (.slice A' (s.bounds.length+ys.length) c')):=(m1.mono λ_ h=>.inl h).setC (λ_=>.inr S.k.2) 2 _;have hL:(s.bounds++ys).length=s.bounds.length+ys.length:=Ze;have hk:=k9.set 2 (.slice A' (s.bounds.length+ys.length) c');rw[<- hL]at hk;refine⟨_,m,⟨S.B.go m zp,S.hc,(by rw[<- hL];exact hk),S.G.go m zp S.B.l zp zp,S.L.go m zp zp,S.R.go m (by rintro _ (rfl|rfl) <;> rfl) zp,S.cn,S.ca.go m zp,S.pa.go m zp,S.sn,S.se.go m zp,S.ev.go m zp,S.ms.go m zp,S.mg,λy hy=>(S.md y hy).go m zp,?_,S.sh.go m zp,S.mo.go m zp,S.cr.go m zp,S.cv⟩⟩;refine⟨?_,λk hk=>?_⟩;{rw[hL,Qn];exact own.fr ((Fr.refl (λk=>k=x.y) w5).setCell (p:=⟨x.y,2,none⟩) (λ_=>rfl) _) (λk hk e=>own.ne k9.1 zd (by rw[<- e];exact hk))};{by_cases h:k<w.heap.size;{exact(q0l h).trans (S.bd.2 k ((hat k hk).resolve_right zo))};{exact q07 zo}}
theorem SyR.push_sh(S:SyR W w o cf x s){ys:List Int}{A':Option Addr}{c':Nat}(own:zj w5 3 1 A' (s.sheds.length+ys.length) c' (s.sheds.map (.int .i64)++ys.map (.int .i64)))(hf:Fr (q02 x.hA) w w5)(hat:∀k,q02 A' k->q02 x.hA k\/w.heap.size<=k) :
  ∃o',Mv (λl=>l=.sys 14\/l=.sys 0) o w o' (w5.setCell ⟨x.y,8,none⟩ (.slice A' (s.sheds.length+ys.length) c'))/\SyR W (w5.setCell ⟨x.y,8,none⟩ (.slice A' (s.sheds.length+ys.length) c')) o' cf {x with hA:=A',hc:=c'} {s with sheds:=s.sheds++ys}:=by have m1:Mv (λl=>l=.sys 14) o w (lay w o (.sys 14)) w5:=Mv.lay (S:=q02 x.hA) _ hf (λk _ hk=>S.sh.2 k hk);have k9:=S.k.go m1 zp;have m:Mv (λl=>l=.sys 14\/l=.sys 0) o w (lay w o (.sys 14)) (w5.setCell ⟨x.y,8,none⟩ (.slice A' (s.sheds.length+ys.length) c')):=(m1.mono λ_ h=>.inl h).setC (λ_=>.inr S.k.2) 8 _;have hL:(s.sheds++ys).length=s.sheds.length+ys.length:=Ze;have hk:=k9.set 8 (.slice A' (s.sheds.length+ys.length) c');rw[<- hL]at hk;refine⟨_,m,⟨S.B.go m zp,S.hc,(by rw[<- hL];exact hk),S.G.go m zp S.B.l zp zp,S.L.go m zp zp,S.R.go m (by rintro _ (rfl|rfl) <;> rfl) zp,S.cn,S.ca.go m zp,S.pa.go m zp,S.sn,S.se.go m zp,S.ev.go m zp,S.ms.go m zp,S.mg,λy hy=>(S.md y hy).go m zp,S.bd.go m zp,?_,S.mo.go m zp,S.cr.go m zp,S.cv⟩⟩;refine⟨?_,λk hk=>?_⟩;{rw[hL,Zk];exact own.fr ((Fr.refl (λk=>k=x.y) w5).setCell (p:=⟨x.y,8,none⟩) (λ_=>rfl) _) (λk hk e=>own.ne k9.1 zd (by rw[<- e];exact hk))};{by_cases h:k<w.heap.size;{exact(q0l h).trans (S.sh.2 k ((hat k hk).resolve_right zo))};{exact q07 zo}}
theorem SyR.push_mo(S:SyR W w o cf x s){ys:List Int}{A':Option Addr}{c':Nat}(own:zj w5 3 1 A' (s.modes.length+ys.length) c' (s.modes.map (.int .i64)++ys.map (.int .i64)))(hf:Fr (q02 x.dA) w w5)(hat:∀k,q02 A' k->q02 x.dA k\/w.heap.size<=k) :
  ∃o',Mv (λl=>l=.sys 15\/l=.sys 0) o w o' (w5.setCell ⟨x.y,9,none⟩ (.slice A' (s.modes.length+ys.length) c'))/\SyR W (w5.setCell ⟨x.y,9,none⟩ (.slice A' (s.modes.length+ys.length) c')) o' cf {x with dA:=A',dc:=c'} {s with modes:=s.modes++ys}:=by have m1:Mv (λl=>l=.sys 15) o w (lay w o (.sys 15)) w5:=Mv.lay (S:=q02 x.dA) _ hf (λk _ hk=>S.mo.2 k hk);have k9:=S.k.go m1 zp;have m:Mv (λl=>l=.sys 15\/l=.sys 0) o w (lay w o (.sys 15)) (w5.setCell ⟨x.y,9,none⟩ (.slice A' (s.modes.length+ys.length) c')):=(m1.mono λ_ h=>.inl h).setC (λ_=>.inr S.k.2) 9 _;have hL:(s.modes++ys).length=s.modes.length+ys.length:=Ze;have hk:=k9.set 9 (.slice A' (s.modes.length+ys.length) c');rw[<- hL]at hk;refine⟨_,m,⟨S.B.go m zp,S.hc,(by rw[<- hL];exact hk),S.G.go m zp S.B.l zp zp,S.L.go m zp zp,S.R.go m (by rintro _ (rfl|rfl) <;> rfl) zp,S.cn,S.ca.go m zp,S.pa.go m zp,S.sn,S.se.go m zp,S.ev.go m zp,S.ms.go m zp,S.mg,λy hy=>(S.md y hy).go m zp,S.bd.go m zp,S.sh.go m zp,?_,S.cr.go m zp,S.cv⟩⟩;refine⟨?_,λk hk=>?_⟩;{rw[hL,Zk];exact own.fr ((Fr.refl (λk=>k=x.y) w5).setCell (p:=⟨x.y,9,none⟩) (λ_=>rfl) _) (λk hk e=>own.ne k9.1 zd (by rw[<- e];exact hk))};{by_cases h:k<w.heap.size;{exact(q0l h).trans (S.mo.2 k ((hat k hk).resolve_right zo))};{exact q07 zo}}
theorem SyR.late_(S:SyR W w o cf x s)(z:Int):Mv (λl=>l=.sys 0) o w o (w.setCell ⟨x.y,11,none⟩ (ii z))/\SyR W (w.setCell ⟨x.y,11,none⟩ (ii z)) o cf x {s with late:=z}:=by have m:Mv (λl=>l=.sys 0) o w o (w.setCell ⟨x.y,11,none⟩ (ii z)):=Mv.setC (L:=λl=>l=.sys 0) (Mv.refl _ o w) (q:=x.y) (λ_=>S.k.2) 11 _;exact⟨m,⟨S.B.go m zp,S.hc,S.k.set 11 _,S.G.go m zp S.B.l zp zp,S.L.go m zp zp,S.R.go m (by rintro _ rfl;rfl) zp,S.cn,S.ca.go m zp,S.pa.go m zp,S.sn,S.se.go m zp,S.ev.go m zp,S.ms.go m zp,S.mg,λy hy=>(S.md y hy).go m zp,S.bd.go m zp,S.sh.go m zp,S.mo.go m zp,S.cr.go m zp,S.cv⟩⟩
end
def zT:Lb->Prop:=λl=>l ≠ .free/\l ≠ .data/\l ≠ .sys 3
theorem zT.s{i:Nat}(h:i≠3):zT (.sys i):=⟨zp,zp,by simpa using h⟩
theorem zT.p{p:Nat}{l:Lb}(h:l.part=some p):zT l:=⟨by rintro rfl;simp[Lb.part]at h,by rintro rfl;simp[Lb.part]at h,by rintro rfl;simp[Lb.part]at h⟩
theorem qwe:ElemOf 57 86 3 24:=q1l (z := .agg #[ii 0,ii 0,ii 0]) zk zk rfl zd zd
def xB(W:World)(o:Gh)(w:World)(cf:Cf)(x:Yx)(s:Sy)(w':World):Prop:=∃o' x',x'.y=x.y/\Mv zT o w o' w'/\SyR W w' o' cf x' s
section
variable{W w:World}{o:Gh}{cf:Cf}{x:Yx}{s:Sy}
theorem qoz(S:SyR W w o cf x s){due part:Int}(hn:s.bounds.length<=100000000000):cP 128 #[pp x.y,ii due,ii part] w λe w'=>e=.returned (.tuple #[])/\xB W o w cf x (q1w s due part) w':=by have h1:w.cell? ⟨x.y,12,none⟩=some (pp x.gx.g):=S.k.1.cell 12;have c2:w.cell? ⟨x.y,2,none⟩=some (.slice x.bA s.bounds.length x.bc):=S.k.1.cell 2;have ly:=S.k.1.lt;obtain⟨kg,lg⟩:=S.G.N.k.cl;have HO:=zhd S.bd.1;have HN:=zhd hn;have HP:=zhd S.G.N.P;clear hn;refine zi ?_;go_upto_region 2 with(first|(go_fit (q20 HP.out);rintro _ _⟨rfl,rfl⟩)| (at_builtin;refine q2k qwe w (by rfl) _ _ (by rfl) (by rfl) HO.out #[ii due,ii s.g.pl.now,ii part] rfl aE (by rfl) HN.out ?_;intro A' c' w5 own5 hf5 hat5;have h0:=S.k.1.fr hf5 (λh=>S.bd.1.ne S.k.1 (by decide) h);have h2:w5.cell? ⟨x.y,2,none⟩=some (.slice x.bA s.bounds.length x.bc):=h0.cell 2;have h3:=h0.frozen;have h4:=h0.lt));obtain⟨o6,m6,S6⟩:=S.push_bd (ys:=[⟨due,s.g.pl.now,part⟩]) own5 hf5 hat5;have M6:=m6.mono (L':=zT) (by rintro _ (rfl|rfl) <;> exact zT.s (by decide));clear own5 hf5 hat5 h0 h2 h3 h4 m6 h1 c2 kg lg HO HN HP ly;simp only[Zj,Qp,Zp]at M6 S6;generalize w5.setCell ⟨x.y,2,none⟩ (.slice A' (s.bounds.length+1) c')=w6 at*;by_cases q:due<s.g.pl.now;{have b1:decide (due<s.g.pl.now)=true:=Z5 q;have c11:w6.cell? ⟨x.y,11,none⟩=some (ii s.late):=S6.k.1.cell 11;have f6:∀i,w6.frozen? ⟨x.y,i,none⟩=false:=S6.k.1.frozen;have l6:x.y<w6.heap.size:=S6.k.1.lt;have HE:Hid (q1w s due part={s with bounds:=s.bounds ++ [⟨due,s.g.pl.now,part⟩],late:=wrap64 (s.late+1)}):=by{unfold q1w;rw[Z1 q];exact rfl};clear q;go_wp2;go_returns;obtain⟨m7,S7⟩:=S6.late_ (wrap64 (s.late+1));refine⟨rfl,o6,{x with bA:=A',bc:=c'},rfl,M6.trans (m7.mono (by rintro _ rfl;exact zT.s (by decide))),?_⟩;rw[HE.out];exact S7};{have b1:decide (due<s.g.pl.now)=false:=Z3 q;have HE:Hid (q1w s due part={s with bounds:=s.bounds ++ [⟨due,s.g.pl.now,part⟩]}):=by{unfold q1w;rw[Z0 q];exact rfl};clear q;go_wp2;go_returns;refine⟨rfl,o6,{x with bA:=A',bc:=c'},rfl,M6,?_⟩;rw[HE.out];exact S6}
end
end Go.Proofs.YtncfcbohiodnnaaGreat
