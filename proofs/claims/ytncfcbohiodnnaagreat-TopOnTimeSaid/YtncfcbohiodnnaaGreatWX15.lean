/- Parts of this seat's claims. -/
import Derived.Test.YtncfcbohiodnnaaGreatWX14
set_option maxRecDepth 100000
set_option maxHeartbeats 6400000
namespace Go.Proofs.YtncfcbohiodnnaaGreat
open Go.RowKit
variable{w w' W wa wo W':World}{c n pt r B j b m mb q base cap id B0:Nat}{A:Option Addr}{a code what:Int}{cs:Array Value}
def xe:Ev:=⟨0,0,0,0,0,0⟩
def qxb(e:Ev):Prop:=e.code=7/\27<e.call\/e.code=8/\0<e.call
def qkh(e:Ev):Int:=if e.code=8 then 2 else 1
def qvz(acts:List Int)(v u:Ev):Prop:=u.proc=v.proc/\u.win=v.win/\u.call = -1-qkh v/\u.code=q6p acts (qkh v)
def q3g(acts:List Int)(pt:Int):List Ev->Prop
 |[]=>True
 |[v]=>¬qxb v/\v.part=pt
 |v::u::l=>((qxb v->qvz acts v u)/\v.part=pt)/\q3g acts pt (u::l)
theorem q3g.app{acts:List Int}{pt:Int}:∀ {l m:List Ev},q3g acts pt l->q3g acts pt m->q3g acts pt (l++m)
 |[],_,_,h=>h
 |[_],[],h,_=>h
 |[_],_::_,h,k=>⟨⟨λhb=>absurd hb h.1,h.2⟩,k⟩
 |_::_::_,_,h,k=>⟨h.1,q3g.app h.2 k⟩
theorem q3g.one{acts:List Int}{pt:Int}{v:Ev}(h:¬qxb v)(hp:v.part=pt):q3g acts pt [v]:=⟨h,hp⟩
theorem q3g.two{acts:List Int}{pt:Int}{v u:Ev}(h:qvz acts v u)(hu:¬qxb u)(hp:v.part=pt)(hq:u.part=pt):q3g acts pt [v,u]:=⟨⟨λ_=>h,hp⟩,hu,hq⟩
def DN(s:Ce):Prop:=∀i,i<s.tk.length->(z6 za s.tk i).done=true->(z6 zh s.tab i).park=true
def qx(a:Int):Prop:=0<=a/\a<=1000
theorem qx.i(h:qx a):i64 a:=by unfold qx at h;unfold i64;omega
def xn:Bx->Prop
 | .que l d=>l.length<=256/\d<=256
 | .smp _ _ _=>True
def qA(y:Ps):Prop:=(qx y.c.size/\y.c.depth<=256)/\xn y.box
def qI(y z:Ps):Prop:=y.c=z.c/\(xn z.box->xn y.box)
theorem qI.refl(y:Ps):qI y y:=⟨rfl,λh=>h⟩
theorem qI.go{y z:Ps}(h:qI y z)(k:qA z):qA y:=⟨by rw[h.1];exact k.1,h.2 k.2⟩
theorem qo1{x:Bx}(b:List UInt8)(h:xn x):xn (q39 x b).1:=by cases x with|que l d=>{obtain⟨h1,h2⟩:=h;unfold q39;dsimp only;split;{exact⟨h1,h2⟩};{exact⟨by rw[Ze,ZK];omega,h2⟩}}|smp _ _ _=>trivial
theorem qw0{x:Bx}(h:xn x):xn (q3a x).2.2:=by cases x with|que l d=>{cases l with|nil=>{exact h}|cons b l=>{exact⟨by have:=h.1;rw[Zj]at this;show l.length<=256;omega,h.2⟩}}|smp _ _ _=>trivial
theorem qw1{x:Bx}(h:xn x):xn (qbe x).2/\(qbe x).1.length<=256:=by cases x with|que l d=>{exact⟨⟨zp,h.2⟩,h.1⟩}|smp b th fr=>{cases fr <;> exact⟨trivial,by simp[qbe]⟩}
theorem qio{c:Po}(h:qx c.size/\c.depth<=256):qA (q3q c):=by refine⟨h,?_⟩;unfold q3q;dsimp only;split;{exact⟨zp,h.2⟩};{trivial}
structure Sz(s:Ce):Prop where
 p:∀i,qA (z6 zn s.pts i)
 q:∀i,qx (z6 qi s.obs.pools i).c.size
 l:∀i,qx (z6 qp s.obs.slates i).size
 cq:∀y∈s.cf.pools.l,qx y.size
 cl:∀y∈s.cf.slates.l,qx y
theorem qby{α:Type}{z:α}{l:List α}{k:Nat}(h:l.length<=k):z6 z l k=z:=by simp[z6,List.getD,h]
theorem qai{α:Type}{z:α}{P:α->Prop}{l:List α}(hz:P z)(h:∀y∈l,P y)(i:Nat):P (z6 z l i):=by by_cases q:i<l.length;{rw[q0s q];exact h _ (ZO q)};{rw[qby zo];exact hz}
def FD(s:Ce):Prop:=∀i,z6 false s.sk.fin i=true->(z6 za s.tk i).done=true
structure Ext(n:Nat)(s s':Ce):Prop where
 cf:s'.cf=s.cf
 pa:s'.part=s.part
 wn:s'.win=s.win
 tk:s'.tk.length=s.tk.length
 tb:s'.tab.length=s.tab.length
 pt:s'.pts.length=s.pts.length
 ev:∃l,s'.evs=s.evs++l/\l.length<=n/\q3g s.cf.acts.l s.part l
 sr:s'.sk.room=s.sk.room
 sh:s'.sk.has=s.sk.has
 so:s'.slk.isSome=s.slk.isSome
 dn:s.tab.length=s.tk.length->DN s->DN s'
 z:Sz s->Sz s'
 fx:(∀i,z6 false s.sk.fin i=true->z6 false s'.sk.fin i=true)/\(s.tab.length=s.tk.length->FD s->FD s')
theorem Ext.refl(s:Ce):Ext 0 s s:=⟨rfl,rfl,rfl,rfl,rfl,rfl,⟨[],zp,zp,trivial⟩,rfl,rfl,rfl,λ_ h=>h,λh=>⟨h.p,h.q,h.l,h.cq,h.cl⟩,⟨λ_ h=>h,λ_ h=>h⟩⟩
theorem Ext.mono{s s':Ce}(h:Ext n s s')(hm:n<=m):Ext m s s':=by obtain⟨l,h1,h2,h3⟩:=h.ev;exact⟨h.cf,h.pa,h.wn,h.tk,h.tb,h.pt,⟨l,h1,Zb h2 hm,h3⟩,h.sr,h.sh,h.so,h.dn,h.z,h.fx⟩
theorem Ext.trans{s s' s'':Ce}(h:Ext n s s')(k:Ext m s' s''):Ext (n+m) s s'':=by obtain⟨l,h1,h2,h3⟩:=h.ev;obtain⟨l',k1,k2,k3⟩:=k.ev;rw[h.cf,h.pa]at k3;exact⟨k.cf.trans h.cf,k.pa.trans h.pa,k.wn.trans h.wn,k.tk.trans h.tk,k.tb.trans h.tb,k.pt.trans h.pt,⟨l++l',by rw[k1,h1,ZU],by rw[Ze];omega,h3.app k3⟩,k.sr.trans h.sr,k.sh.trans h.sh,k.so.trans h.so,λhl hd=>k.dn (by rw[h.tb,h.tk];exact hl) (h.dn hl hd),λhz=>k.z (h.z hz),⟨λi q=>k.fx.1 i (h.fx.1 i q),λhl hf=>k.fx.2 (by rw[h.tb,h.tk];exact hl) (h.fx.2 hl hf)⟩⟩
theorem Ext.len{s s':Ce}(h:Ext n s s'):s'.evs.length<=s.evs.length+n:=by obtain⟨l,h1,h2,_⟩:=h.ev;rw[h1,Ze];omega
theorem Ext.trans0{s s' s'':Ce}(h:Ext n s s')(k:Ext 0 s' s''):Ext n s s'':=h.trans k
theorem Ext.sta{s s':Ce}(h:Ext n s s')(k:Sta W s):Sta W s':=⟨by rw[h.cf];exact k.cf,by rw[h.cf];exact k.dp,by rw[h.tk];exact k.n8,by rw[h.pt];exact k.p8⟩
theorem q5b{s:Ce}{k:Nat}{t:Tk}(hd:t.done=(z6 za s.tk k).done):Ext 0 s (q1d s k t):=by have hs:∀i,(z6 za (s.tk.set k t) i).done=(z6 za s.tk i).done:=λi=>by{by_cases hk:k<s.tk.length;{rw[Me.atD_set _ _ _ _ _ hk];by_cases q:i=k;{subst q;rw[Z1 rfl,hd]};{rw[Z0 q]}};{rw[ZN zo]}};refine⟨rfl,rfl,rfl,Zd,rfl,rfl,⟨[],by simp[q1d],zp,trivial⟩,rfl,rfl,rfl,λ_ h i hi hd'=>?_,λh=>⟨h.p,h.q,h.l,h.cq,h.cl⟩,⟨λ_ h=>h,λ_ h i hi=>(hs i).trans (h i hi)⟩⟩;have h0:i<s.tk.length:=by{simpa[q1d] using hi};exact h i h0 ((hs i).symm.trans hd')
theorem qaj{s:Ce}{k:Nat}{y:Rw}{tn:Int}(hp:(z6 zh s.tab k).park=true->y.park=true):Ext 0 s {s with tab:=s.tab.set k y,tn:=tn}:=by refine⟨rfl,rfl,rfl,rfl,Zd,rfl,⟨[],zp,zp,trivial⟩,rfl,rfl,rfl,λhl h i hi hd=>?_,λh=>⟨h.p,h.q,h.l,h.cq,h.cl⟩,⟨λ_ h=>h,λ_ h=>h⟩⟩;have:=h i hi hd;show(z6 zh (s.tab.set k y) i).park=true;by_cases hk:k<s.tab.length;{rw[qcy _ _ _ _ hk];by_cases q:i=k;{subst q;rw[Z1 rfl];exact hp this};{rw[Z0 q];exact this}};{rw[ZN zo];exact this}
theorem qz0{s:Ce}{b:List (List UInt8)}:Ext 0 s {s with bs:=b}:=⟨rfl,rfl,rfl,rfl,rfl,rfl,⟨[],zp,zp,trivial⟩,rfl,rfl,rfl,λ_ h=>h,λh=>⟨h.p,h.q,h.l,h.cq,h.cl⟩,⟨λ_ h=>h,λ_ h=>h⟩⟩
theorem qw2{s:Ce}{b:Ob}(hq:∀i,(z6 qi b.pools i).c=(z6 qi s.obs.pools i).c)(hl:∀i,(z6 qp b.slates i).size=(z6 qp s.obs.slates i).size):Ext 0 s {s with obs:=b}:=⟨rfl,rfl,rfl,rfl,rfl,rfl,⟨[],zp,zp,trivial⟩,rfl,rfl,rfl,λ_ h=>h,λh=>⟨h.p,λi=>by have:=h.q i;rw[<- hq]at this;exact this,λi=>by have:=h.l i;rw[<- hl]at this;exact this,h.cq,h.cl⟩,⟨λ_ h=>h,λ_ h=>h⟩⟩
theorem qrz{s:Ce}{b:Int}:Ext 0 s {s with mode:=b}:=⟨rfl,rfl,rfl,rfl,rfl,rfl,⟨[],zp,zp,trivial⟩,rfl,rfl,rfl,λ_ h=>h,λh=>⟨h.p,h.q,h.l,h.cq,h.cl⟩,⟨λ_ h=>h,λ_ h=>h⟩⟩
theorem q8g{s:Ce}{b:List Ps}(h:b.length=s.pts.length)(hc:∀i,qI (z6 zn b i) (z6 zn s.pts i)):Ext 0 s {s with pts:=b}:=⟨rfl,rfl,rfl,rfl,rfl,h,⟨[],zp,zp,trivial⟩,rfl,rfl,rfl,λ_ h=>h,λh=>⟨λi=>(hc i).go (h.p i),h.q,h.l,h.cq,h.cl⟩,⟨λ_ h=>h,λ_ h=>h⟩⟩
theorem q9g{s:Ce}{k call v:Int}(h:¬qxb ⟨s.part,s.win,k,call,code,v⟩):Ext 1 s (q0i s k call code v):=⟨rfl,rfl,rfl,rfl,rfl,rfl,⟨[_],rfl,zp,q3g.one h rfl⟩,rfl,rfl,rfl,λ_ h=>h,λh=>⟨h.p,h.q,h.l,h.cq,h.cl⟩,⟨λ_ h=>h,λ_ h=>h⟩⟩
theorem q7v(tn:Int)(p:Rw)(st:Int):(qi1 tn p st).park=p.park:=by unfold qi1;dsimp only;split <;> split <;> rfl
theorem q8h{s:Ce}{k st:Int}:Ext 0 s (q6a s (setS s.tab s.tn k st).2):=by unfold setS;by_cases q:0<=k/\k<s.tab.length;{rw[Z1 q];by_cases q2:st<0\/5<=st\/st=2;{rw[Z1 q2];exact Ext.refl s};{rw[Z0 q2];exact qaj (λh=>by rw[q7v];exact h)}};{rw[Z0 q];exact Ext.refl s}
theorem q6f(s:Ce)(k:Nat):Ext 0 s (q2e s k):=(q5b (s:=s) (k:=k) (t:={z6 za s.tk k with data:=[]}) rfl).trans0 q8h
theorem qbz{s:Ce}{k win:Int}:Ext 0 s (q6a s (q6n s.tab s.tn k win).2):=by unfold q6n;split;{split;{exact qaj (λh=>by rw[q7v];exact h)};{exact Ext.refl s}};{exact Ext.refl s}
theorem qs0{s:Ce}{k:Int}:Ext 0 s {s with tab:=(qa1 s.tab k).2}:=by unfold qa1;split;{exact qaj (tn:=s.tn) (λ_=>rfl)};{exact Ext.refl s}
theorem qdf{s:Ce}{k call wake:Int}:Ext 0 s (q6a s (qbb s.tab s.tn k call what wake).2):=by unfold qbb;split;{exact qaj (λh=>by rw[q7v];exact h)};{exact Ext.refl s}
theorem qip{s:Ce}{k prio:Int}:Ext 0 s {s with tab:=(qek s.tab k prio).2}:=by unfold qek;split;{split;{exact Ext.refl s};{exact qaj (s:=s) (tn:=s.tn) (λh=>h)}};{exact Ext.refl s}
theorem q4t(s:Ce)(k:Nat)(win:Int):Ext 0 s (q0m s k win):=by unfold q0m;dsimp only;have h1:Ext 0 s (q1d s k {(z6 za s.tk k).set 0 with data:=[]}):=q5b rfl;split;{exact(h1.trans0 qbz).trans0 qs0};{exact h1.trans0 qbz}
theorem q6g{f:Ce->Nat->Ce}(hf:∀s k,Ext 0 s (f s k))(s:Ce):∀n,Ext 0 s (q1h f s n)
 |0=>Ext.refl s
 |n+1=>by rw[q1p];exact(q6g hf s n).trans0 (hf _ _)
theorem qdg(s:Ce):Ext 0 s (qes s):=(qrz (b:=0)).trans0 (q6g q6f _ _)
theorem qo2{l:List Ps}{i:Nat}(h:qA (z6 zn l i)):qA (z6 zn (q3r l) i):=by unfold q3r;by_cases q:i<l.length;{rw[q0s (by simpa using q),QC];rw[q0s q]at h;exact qio h.1};{rw[qby aO];rw[qby zo]at h;exact h}
theorem q6x(s:Ce)(cold:Bool):Ext 0 s (q2s s cold):=by unfold q2s;have h1:Ext 0 s {s with bs:=if cold=true then s.bs.map Me.zl else s.bs,obs:=q4r s.cf,pts:=q3r s.pts}:=⟨rfl,rfl,rfl,rfl,rfl,by simp[q3r],⟨[],zp,zp,trivial⟩,rfl,rfl,rfl,λ_ h=>h,λh=>⟨λi=>qo2 (h.p i),qai (P:=λy:Pq=>qx y.c.size) ⟨zd,zd⟩ (λy hy=>by obtain⟨z,hz,rfl⟩:=Zz.1 hy;exact h.cq z (ZV hz)),qai (P:=λy:Sa=>qx y.size) ⟨zd,zd⟩ (λy hy=>by obtain⟨z,hz,rfl⟩:=Zz.1 hy;exact h.cl z (ZV hz)),h.cq,h.cl⟩,⟨λ_ h=>h,λ_ h=>h⟩⟩;exact(h1.trans0 (q6g q6f _ _)).trans0 (q6g (λs k=>q4t s k s.win) _ _)
theorem qc0(s:Ce)(kd:Nat)(k:Nat):Ext 0 (q0i s k (wrap64 (-1-(kd:Int))) (q6p s.cf.acts.l kd) 0) (q1c s kd k):=by unfold q1c;dsimp only;split;{exact q6f _ _};{split;{exact(q6f _ _).trans0 (q4t _ _ _)};{split;{exact q6x _ _};{split;{exact qdg _};{exact Ext.refl _}}}}
theorem q62(s:Ce)(kd:Nat)(k:Nat):Ext 1 s (q1c s kd k):=by refine(q9g ?_).trans0 (qc0 s kd k);have:=qi7 s.cf.acts.l kd;rintro(⟨h,_⟩|⟨h,_⟩) <;> simp only at h <;> omega
theorem q18{s:Ce}{k:Nat}{call v:Int}(h:code≠7)(h8:code≠8):Ext 1 s (q09 s k call code v):=by unfold q09;dsimp only;exact((q9g (by rintro(⟨e,_⟩|⟨e,_⟩);exact h e;exact h8 e)).trans0 (q5b (k:=k) (t:={z6 za (q0i s k call code v).tk k with data:=[]}) rfl)).trans0 (q8h (k:=k) (st:=1))
theorem q4u{s:Ce}{b:List UInt8}:Ext 0 s (q3t s a b):=qz0
theorem q6h{s:Ce}{k:Nat}{call:Int}{b:List UInt8}:Ext 1 s (q15 s k call b):=(q4u.trans (q18 zd zd)).mono zo
theorem q7w{f:Ce->Option Ce}(hf:∀s s',f s=some s'->Ext 1 s s'):∀(n:Nat) (s:Ce),Ext n s (q3u f n s)
 |0,s=>Ext.refl s
 |n+1,s=>by unfold q3u;cases h:f s with|none=>{exact(Ext.refl s).mono zo}|some s'=>exact((hf s s' h).trans (q7w hf n s')).mono zo
end Go.Proofs.YtncfcbohiodnnaaGreat
