/- Parts of this seat's claims. -/
import Derived.Test.YtncfcbohiodnnaaGreatW22
set_option maxRecDepth 100000
set_option maxHeartbeats 6400000
namespace Go.Proofs.YtncfcbohiodnnaaGreat
open Go.RowKit
variable{w w' W wa wo W':World} {c n pt r B j b m mb q base cap id B0:Nat} {A:Option Addr} {a code what:Int} {cs:Array Value}
def Ev0:Ev:=⟨0,0,0,0,0,0⟩
def qxb(e:Ev):Prop:=e.code=7/\27 < e.call\/e.code=8/\0 < e.call
def qkh(e:Ev):Int:=if e.code=8 then 2 else 1
def qvz(acts:List Int) (v u:Ev):Prop:=u.proc=v.proc/\u.win=v.win/\u.call = -1 - qkh v/\u.code=q6p acts (qkh v)
def q3g(acts:List Int) (pt:Int):List Ev->Prop
 | []=>True
 | [v]=>¬ qxb v/\v.part=pt
 | v :: u :: l=>((qxb v->qvz acts v u)/\v.part=pt)/\q3g acts pt (u :: l)
theorem q3g.app{acts:List Int} {pt:Int} : ∀ {l m:List Ev},q3g acts pt l->q3g acts pt m->q3g acts pt (l ++ m)
 | [],_,_,h=>h
 | [_],[],h,_=>h
 | [_],_ :: _,h,k=>⟨⟨λhb=>absurd hb h.1,h.2⟩,k⟩
 | _ :: _ :: _,_,h,k=>⟨h.1,q3g.app h.2 k⟩
theorem q3g.one{acts:List Int} {pt:Int} {v:Ev} (h:¬ qxb v) (hp:v.part=pt):q3g acts pt [v]:=⟨h,hp⟩
theorem q3g.two{acts:List Int} {pt:Int} {v u:Ev} (h:qvz acts v u) (hu:¬ qxb u) (hp:v.part=pt) (hq:u.part=pt):q3g acts pt [v,u]:=⟨⟨λ_=>h,hp⟩,hu,hq⟩
def DN(s:Ce):Prop:=∀ i,i < s.tk.length->(atD Tk0 s.tk i).done=true->(atD Rw0 s.tab i).park=true
def szI(a:Int):Prop:=0<=a/\a<=1000
theorem szI.i(h:szI a):i64 a:=by unfold szI at h;unfold i64;omega
def bxI:Bx->Prop
 | .que l d=>l.length<=256/\d<=256
 | .smp _ _ _=>True
def psI(y:Ps):Prop:=(szI y.c.size/\y.c.depth<=256)/\bxI y.box
def psK(y z:Ps):Prop:=y.c=z.c/\(bxI z.box->bxI y.box)
theorem psK.refl(y:Ps):psK y y:=⟨rfl,λh=>h⟩
theorem psK.go{y z:Ps} (h:psK y z) (k:psI z):psI y:=⟨by rw[h.1];exact k.1,h.2 k.2⟩
theorem qo1{x:Bx} (b:List UInt8) (h:bxI x):bxI (q39 x b).1:=by
 cases x with
 | que l d =>
  obtain⟨h1,h2⟩:=h;unfold q39;dsimp only;split
  .exact⟨h1,h2⟩
  .exact⟨by rw[List.length_append,List.length_singleton];omega,h2⟩
 | smp _ _ _=>trivial
theorem qw0{x:Bx} (h:bxI x):bxI (q3a x).2.2:=by
 cases x with
 | que l d =>
  cases l with
  | nil=>exact h
  | cons b l=>exact⟨by have:=h.1;rw[List.length_cons]at this;show l.length<=256;omega,h.2⟩
 | smp _ _ _=>trivial
theorem qw1{x:Bx} (h:bxI x):bxI (qbe x).2/\(qbe x).1.length<=256:=by
 cases x with
 | que l d=>exact⟨⟨zp,h.2⟩,h.1⟩
 | smp b th fr=>cases fr <;> exact⟨trivial,by simp[qbe]⟩
theorem qio{c:Po} (h:szI c.size/\c.depth<=256):psI (q3q c):=by
 refine⟨h,?_⟩;unfold q3q;dsimp only;split
 .exact⟨zp,h.2⟩
 .trivial
structure Sz(s:Ce):Prop where
 p:∀ i,psI (atD Ps0 s.pts i)
 q:∀ i,szI (atD Pq0 s.obs.pools i).c.size
 l:∀ i,szI (atD Sa0 s.obs.slates i).size
 cq:∀ y ∈ s.cf.pools.l,szI y.size
 cl:∀ y ∈ s.cf.slates.l,szI y
theorem qby{α : Type} {z : α} {l:List α} {k:Nat} (h:l.length<=k):atD z l k=z:=by simp[atD,List.getD,h]
theorem qai{α : Type} {z : α} {P : α->Prop} {l:List α} (hz:P z) (h:∀ y ∈ l,P y) (i:Nat):P (atD z l i):=by
 by_cases q:i < l.length
 .rw[q0s q];exact h _ (List.getElem_mem q)
 .rw[qby zo];exact hz
def FD(s:Ce):Prop:=∀ i,atD false s.sk.fin i=true->(atD Tk0 s.tk i).done=true
structure Ext(n:Nat) (s s':Ce):Prop where
 cf:s'.cf=s.cf
 pa:s'.part=s.part
 wn:s'.win=s.win
 tk:s'.tk.length=s.tk.length
 tb:s'.tab.length=s.tab.length
 pt:s'.pts.length=s.pts.length
 ev:∃ l,s'.evs=s.evs ++ l/\l.length<=n/\q3g s.cf.acts.l s.part l
 sr:s'.sk.room=s.sk.room
 sh:s'.sk.has=s.sk.has
 so:s'.slk.isSome=s.slk.isSome
 dn:s.tab.length=s.tk.length->DN s->DN s'
 z:Sz s->Sz s'
 fx:(∀ i,atD false s.sk.fin i=true->atD false s'.sk.fin i=true)/\(s.tab.length=s.tk.length->FD s->FD s')
theorem Ext.refl(s:Ce):Ext 0 s s:=⟨rfl,rfl,rfl,rfl,rfl,rfl,⟨[],zp,zp,trivial⟩,rfl,rfl,rfl,λ_ h=>h,λh=>⟨h.p,h.q,h.l,h.cq,h.cl⟩,⟨λ_ h=>h,λ_ h=>h⟩⟩
theorem Ext.mono{s s':Ce} (h:Ext n s s') (hm:n<=m):Ext m s s':=by
 obtain⟨l,h1,h2,h3⟩:=h.ev;exact⟨h.cf,h.pa,h.wn,h.tk,h.tb,h.pt,⟨l,h1,Nat.le_trans h2 hm,h3⟩,h.sr,h.sh,h.so,h.dn,h.z,h.fx⟩
theorem Ext.trans{s s' s'':Ce} (h:Ext n s s') (k:Ext m s' s''):Ext (n + m) s s'':=by
 obtain⟨l,h1,h2,h3⟩:=h.ev;obtain⟨l',k1,k2,k3⟩:=k.ev;rw[h.cf,h.pa]at k3
 exact⟨k.cf.trans h.cf,k.pa.trans h.pa,k.wn.trans h.wn,k.tk.trans h.tk,k.tb.trans h.tb,k.pt.trans h.pt,⟨l ++ l',by rw[k1,h1,List.append_assoc],by rw[List.length_append];omega,h3.app k3⟩,k.sr.trans h.sr,k.sh.trans h.sh,k.so.trans h.so,λhl hd=>k.dn (by rw[h.tb,h.tk];exact hl) (h.dn hl hd),λhz=>k.z (h.z hz),⟨λi q=>k.fx.1 i (h.fx.1 i q),λhl hf=>k.fx.2 (by rw[h.tb,h.tk];exact hl) (h.fx.2 hl hf)⟩⟩
theorem Ext.len{s s':Ce} (h:Ext n s s'):s'.evs.length<=s.evs.length + n:=by
 obtain⟨l,h1,h2,_⟩:=h.ev;rw[h1,List.length_append];omega
theorem Ext.trans0{s s' s'':Ce} (h:Ext n s s') (k:Ext 0 s' s''):Ext n s s'':=h.trans k
theorem Ext.sta{s s':Ce} (h:Ext n s s') (k:Sta W s):Sta W s':=⟨by rw[h.cf];exact k.cf,by rw[h.cf];exact k.dp,by rw[h.tk];exact k.n8,by rw[h.pt];exact k.p8⟩
theorem q5b{s:Ce} {k:Nat} {t:Tk} (hd:t.done=(atD Tk0 s.tk k).done):Ext 0 s (q1d s k t):=by
 have hs:∀ i,(atD Tk0 (s.tk.set k t) i).done=(atD Tk0 s.tk i).done:=λi=>by
  by_cases hk:k < s.tk.length
  .rw[Me.atD_set _ _ _ _ _ hk];by_cases q:i=k
   .subst q;rw[if_pos rfl,hd]
   .rw[if_neg q]
  .rw[List.set_eq_of_length_le zo]
 refine⟨rfl,rfl,rfl,List.length_set,rfl,rfl,⟨[],by simp[q1d],zp,trivial⟩,rfl,rfl,rfl,λ_ h i hi hd'=>?_,λh=>⟨h.p,h.q,h.l,h.cq,h.cl⟩,⟨λ_ h=>h,λ_ h i hi=>(hs i).trans (h i hi)⟩⟩;have h0:i < s.tk.length:=by simpa [q1d] using hi
 exact h i h0 ((hs i).symm.trans hd')
theorem qaj{s:Ce} {k:Nat} {y:Rw} {tn:Int} (hp:(atD Rw0 s.tab k).park=true->y.park=true):Ext 0 s { s with tab:=s.tab.set k y,tn:=tn }:=by
 refine⟨rfl,rfl,rfl,rfl,List.length_set,rfl,⟨[],zp,zp,trivial⟩,rfl,rfl,rfl,λhl h i hi hd=>?_,λh=>⟨h.p,h.q,h.l,h.cq,h.cl⟩,⟨λ_ h=>h,λ_ h=>h⟩⟩;have:=h i hi hd;show(atD Rw0 (s.tab.set k y) i).park=true;by_cases hk:k < s.tab.length
 .rw[qcy _ _ _ _ hk];by_cases q:i=k
  .subst q;rw[if_pos rfl];exact hp this
  .rw[if_neg q];exact this
 .rw[List.set_eq_of_length_le zo];exact this
theorem qz0{s:Ce} {b:List (List UInt8)} : Ext 0 s { s with bs:=b }:=⟨rfl,rfl,rfl,rfl,rfl,rfl,⟨[],zp,zp,trivial⟩,rfl,rfl,rfl,λ_ h=>h,λh=>⟨h.p,h.q,h.l,h.cq,h.cl⟩,⟨λ_ h=>h,λ_ h=>h⟩⟩
theorem qw2{s:Ce} {b:Ob} (hq:∀ i,(atD Pq0 b.pools i).c=(atD Pq0 s.obs.pools i).c) (hl:∀ i,(atD Sa0 b.slates i).size=(atD Sa0 s.obs.slates i).size):Ext 0 s { s with obs:=b }:=⟨rfl,rfl,rfl,rfl,rfl,rfl,⟨[],zp,zp,trivial⟩,rfl,rfl,rfl,λ_ h=>h,λh=>⟨h.p,λi=>by have:=h.q i;rw[<- hq]at this;exact this,λi=>by have:=h.l i;rw[<- hl]at this;exact this,h.cq,h.cl⟩,⟨λ_ h=>h,λ_ h=>h⟩⟩
theorem qrz{s:Ce} {b:Int} : Ext 0 s { s with mode:=b }:=⟨rfl,rfl,rfl,rfl,rfl,rfl,⟨[],zp,zp,trivial⟩,rfl,rfl,rfl,λ_ h=>h,λh=>⟨h.p,h.q,h.l,h.cq,h.cl⟩,⟨λ_ h=>h,λ_ h=>h⟩⟩
theorem q8g{s:Ce} {b:List Ps} (h:b.length=s.pts.length) (hc:∀ i,psK (atD Ps0 b i) (atD Ps0 s.pts i)):Ext 0 s { s with pts:=b }:=⟨rfl,rfl,rfl,rfl,rfl,h,⟨[],zp,zp,trivial⟩,rfl,rfl,rfl,λ_ h=>h,λh=>⟨λi=>(hc i).go (h.p i),h.q,h.l,h.cq,h.cl⟩,⟨λ_ h=>h,λ_ h=>h⟩⟩
theorem q9g{s:Ce} {k call v:Int} (h:¬ qxb ⟨s.part,s.win,k,call,code,v⟩):Ext 1 s (q0i s k call code v):=⟨rfl,rfl,rfl,rfl,rfl,rfl,⟨[_],rfl,zp,q3g.one h rfl⟩,rfl,rfl,rfl,λ_ h=>h,λh=>⟨h.p,h.q,h.l,h.cq,h.cl⟩,⟨λ_ h=>h,λ_ h=>h⟩⟩
theorem q7v(tn:Int) (p:Rw) (st:Int):(qi1 tn p st).park=p.park:=by unfold qi1;dsimp only;split <;> split <;> rfl
theorem q8h{s:Ce} {k st:Int} : Ext 0 s (q6a s (setS s.tab s.tn k st).2):=by
 unfold setS;by_cases q:0<=k/\k < s.tab.length
 .rw[if_pos q];by_cases q2:st < 0\/5<=st\/st=2
  .rw[if_pos q2];exact Ext.refl s
  .rw[if_neg q2];exact qaj (λh=>by rw[q7v];exact h)
 .rw[if_neg q];exact Ext.refl s
theorem q6f(s:Ce) (k:Nat):Ext 0 s (q2e s k):=(q5b (s:=s) (k:=k) (t:={ atD Tk0 s.tk k with data:=[] }) rfl).trans0 q8h
theorem qbz{s:Ce} {k win:Int} : Ext 0 s (q6a s (q6n s.tab s.tn k win).2):=by
 unfold q6n;split
 .split
  .exact qaj (λh=>by rw[q7v];exact h)
  .exact Ext.refl s
 .exact Ext.refl s
theorem qs0{s:Ce} {k:Int} : Ext 0 s { s with tab:=(qa1 s.tab k).2 }:=by
 unfold qa1;split
 .exact qaj (tn:=s.tn) (λ_=>rfl)
 .exact Ext.refl s
theorem qdf{s:Ce} {k call wake:Int} : Ext 0 s (q6a s (qbb s.tab s.tn k call what wake).2):=by
 unfold qbb;split
 .exact qaj (λh=>by rw[q7v];exact h)
 .exact Ext.refl s
theorem qip{s:Ce} {k prio:Int} : Ext 0 s { s with tab:=(qek s.tab k prio).2 }:=by
 unfold qek;split
 .split
  .exact Ext.refl s
  .exact qaj (s:=s) (tn:=s.tn) (λh=>h)
 .exact Ext.refl s
theorem q4t(s:Ce) (k:Nat) (win:Int):Ext 0 s (q0m s k win):=by
 unfold q0m;dsimp only;have h1:Ext 0 s (q1d s k { (atD Tk0 s.tk k).set 0 with data:=[] }):=q5b rfl;split
 .exact(h1.trans0 qbz).trans0 qs0
 .exact h1.trans0 qbz
theorem q6g{f:Ce->Nat->Ce} (hf:∀ s k,Ext 0 s (f s k)) (s:Ce):∀ n,Ext 0 s (q1h f s n)
 | 0=>Ext.refl s
 | n + 1=>by rw[q1p];exact(q6g hf s n).trans0 (hf _ _)
theorem qdg(s:Ce):Ext 0 s (qes s):=(qrz (b:=0)).trans0 (q6g q6f _ _)
theorem qo2{l:List Ps} {i:Nat} (h:psI (atD Ps0 l i)):psI (atD Ps0 (q3r l) i):=by
 unfold q3r;by_cases q:i < l.length
 .rw[q0s (by simpa using q),List.getElem_map];rw[q0s q]at h
  exact qio h.1
 .rw[qby (by simp;omega)];rw[qby zo]at h
  exact h
theorem q6x(s:Ce) (cold:Bool):Ext 0 s (q2s s cold):=by
 unfold q2s;have h1:Ext 0 s { s with bs:=if cold=true then s.bs.map Me.zl else s.bs,obs:=q4r s.cf,pts:=q3r s.pts }:=⟨rfl,rfl,rfl,rfl,rfl,by simp[q3r],⟨[],zp,zp,trivial⟩,rfl,rfl,rfl,λ_ h=>h,λh=>⟨λi=>qo2 (h.p i),qai (P:=λy:Pq=>szI y.c.size) ⟨zd,zd⟩ (λy hy=>by obtain⟨z,hz,rfl⟩:=List.mem_map.1 hy;exact h.cq z (List.mem_of_mem_take hz)),qai (P:=λy:Sa=>szI y.size) ⟨zd,zd⟩ (λy hy=>by obtain⟨z,hz,rfl⟩:=List.mem_map.1 hy;exact h.cl z (List.mem_of_mem_take hz)),h.cq,h.cl⟩,⟨λ_ h=>h,λ_ h=>h⟩⟩
 exact(h1.trans0 (q6g q6f _ _)).trans0 (q6g (λs k=>q4t s k s.win) _ _)
theorem qc0(s:Ce) (kd:Nat) (k:Nat):Ext 0 (q0i s k (wrap64 (-1 - (kd:Int))) (q6p s.cf.acts.l kd) 0) (q1c s kd k):=by
 unfold q1c;dsimp only;split
 .exact q6f _ _
 .split
  .exact(q6f _ _).trans0 (q4t _ _ _)
  .split
   .exact q6x _ _
   .split
    .exact qdg _
    .exact Ext.refl _
theorem q62(s:Ce) (kd:Nat) (k:Nat):Ext 1 s (q1c s kd k):=by
 refine(q9g ?_).trans0 (qc0 s kd k);have:=qi7 s.cf.acts.l kd;rintro(⟨h,_⟩ | ⟨h,_⟩) <;> simp only at h <;> omega
theorem q18{s:Ce} {k:Nat} {call v:Int} (h:code≠7) (h8:code≠8):Ext 1 s (q09 s k call code v):=by
 unfold q09;dsimp only;exact((q9g (by rintro(⟨e,_⟩ | ⟨e,_⟩);exact h e;exact h8 e)).trans0 (q5b (k:=k) (t:={ atD Tk0 (q0i s k call code v).tk k with data:=[] }) rfl)).trans0 (q8h (k:=k) (st:=1))
theorem q4u{s:Ce} {b:List UInt8} : Ext 0 s (q3t s a b):=qz0
theorem q6h{s:Ce} {k:Nat} {call:Int} {b:List UInt8} : Ext 1 s (q15 s k call b):=(q4u.trans (q18 zd zd)).mono zo
theorem q7w{f:Ce->Option Ce} (hf:∀ s s',f s=some s'->Ext 1 s s'):∀ (n:Nat) (s:Ce),Ext n s (q3u f n s)
 | 0,s=>Ext.refl s
 | n + 1,s=>by
  unfold q3u;cases h:f s with
  | none=>exact(Ext.refl s).mono zo
  | some s'=>exact((hf s s' h).trans (q7w hf n s')).mono zo
def ndN(l:List Tk):Nat:=(l.filter λt=>!t.done).length
theorem qu2(l:List Tk):ndN l<=l.length:=List.length_filter_le _ _
theorem qo3:∀ (l:List Tk) (j:Nat) (y:Tk),j < l.length->(atD Tk0 l j).done=false->y.done=true->ndN (l.set j y) + 1=ndN l
 | [],j,y,h,_,_=>absurd h zp
 | x :: l,0,y,_,h2,h3=>by
  have h0:x.done=false:=h2;simp[ndN,h0,h3]
 | x :: l,j + 1,y,h,h2,h3=>by
  have:=qo3 l j y (by simpa using h) h2 h3;unfold ndN at this ⊢;rw[List.set_cons_succ,List.filter_cons,List.filter_cons];split <;> (try simp only[List.length_cons]) <;> omega
def Dn(s s':Ce):Prop:=s'.tk.map (·.done)=s.tk.map (·.done)
theorem Dn.nd{s s':Ce} (h:Dn s s'):ndN s'.tk=ndN s.tk:=by
 have e:∀ l:List Tk,ndN l=((l.map (·.done)).filter λb=>!b).length:=λl=>by unfold ndN;rw[List.filter_map,List.length_map];rfl
 rw[e,e,h]
theorem Dn.trans{s s' s'':Ce} (h:Dn s s') (k:Dn s' s''):Dn s s'':=Eq.trans k h
theorem qo4{s:Ce} {k:Nat} {t:Tk} (hd:t.done=(atD Tk0 s.tk k).done):Dn s (q1d s k t):=by
 unfold Dn q1d;simp only;apply List.ext_getElem?;intro i;rw[List.getElem?_map,List.getElem?_map,List.getElem?_set];by_cases q:k=i
 .subst q;rw[if_pos rfl];by_cases hk:k < s.tk.length
  .rw[if_pos hk,List.getElem?_eq_getElem hk];simp only[Option.map_some,hd];rw[q0s hk]
  .rw[if_neg hk,List.getElem?_eq_none zo]
 .rw[if_neg q]
theorem qdh(s:Ce) (k:Nat):Dn s (q2e s k):=qo4 (s:=s) (k:=k) (t:={ atD Tk0 s.tk k with data:=[] }) rfl
theorem qiq(s:Ce) (k:Nat) (win:Int):Dn s (q0m s k win):=by
 have h1:Dn s (q1d s k { (atD Tk0 s.tk k).set 0 with data:=[] }):=qo4 rfl;unfold q0m;dsimp only;split <;> exact h1
theorem qdi{f:Ce->Nat->Ce} (hf:∀ s k,Dn s (f s k)) (s:Ce):∀ n,Dn s (q1h f s n)
 | 0=>rfl
 | n + 1=>by rw[q1p];exact(qdi hf s n).trans (hf _ _)
theorem qki(s:Ce) (cold:Bool):Dn s (q2s s cold):=by
 unfold q2s;have h1:Dn s { s with bs:=if cold=true then s.bs.map Me.zl else s.bs,obs:=q4r s.cf,pts:=q3r s.pts }:=rfl;exact h1.trans ((qdi qdh _ _).trans (qdi (λs k=>qiq s k s.win) _ _))
theorem qw3(s:Ce):Dn s (qes s):=Dn.trans (s':={ s with mode:=0 }) rfl (qdi qdh _ _)
theorem qs1(s:Ce) (kd:Int) (k:Nat):Dn s (q1c s kd k):=by
 unfold q1c;dsimp only;split
 .exact qdh (q0i s _ _ _ _) _
 .split
  .exact(qdh (q0i s _ _ _ _) _).trans (qiq _ _ _)
  .split
   .exact qki (q0i s _ _ _ _) _
   .split
    .exact qw3 (q0i s _ _ _ _)
    .rfl
theorem qdj{s:Ce} (h:0<=q7h s):∃ j:Nat,q7h s=j/\j < s.tab.length/\(atD Rw0 s.tab j).park=false:=by
 obtain⟨j,h1,h2,h3⟩:=qdd h;refine⟨j,h1,h2,?_⟩;simp only[q4n,Bool.and_eq_true,Bool.not_eq_true']at h3;exact h3.2
theorem qz1{l:List Bool} {k i:Nat} (h:atD false l i=true):atD false (l.set k true) i=true:=by
 by_cases hk:k < l.length
 .rw[Me.atD_set _ _ _ _ _ hk];split
  .rfl
  .exact h
 .rw[List.set_eq_of_length_le zo];exact h
theorem qz2{l:List Bool} {k i:Nat} (q:i≠k) (h:atD false (l.set k true) i=true):atD false l i=true:=by
 by_cases hk:k < l.length
 .rw[Me.atD_set _ _ _ _ _ hk,if_neg q]at h;exact h
 .rw[List.set_eq_of_length_le zo]at h;exact h
theorem q7x{s:Ce} {k:Nat} (hk:k < s.tab.length) (hs:s.slk≠none):Ext 0 s (q57 s k):=by
 obtain⟨y,hy⟩:=Option.ne_none_iff_exists'.1 hs;have hp:(qa1 s.tab k).2=s.tab.set k { atD Rw0 s.tab k with park:=true }:=by
  unfold qa1;rw[if_pos ⟨zo,zo⟩,Int.toNat_natCast]
 have e:q57 s k={ s with tk:=s.tk.set k { atD Tk0 s.tk k with done:=true },tab:=s.tab.set k { atD Rw0 s.tab k with park:=true },slk:=some (qqt y k) }:=by
  have h0:s.sk=y:=by unfold Ce.sk;rw[hy];rfl
  unfold q57;simp only[q1d];rw[hp];congr 2
  show qqt s.sk k=_;rw[h0]
 have h0:s.sk=y:=by unfold Ce.sk;rw[hy];rfl
 rw[e];refine⟨rfl,rfl,rfl,List.length_set,List.length_set,rfl,⟨[],zp,zp,trivial⟩,by rw[h0];rfl,by rw[h0];rfl,by rw[hy];rfl,λhl h i hi hd=>?_,λh=>⟨h.p,h.q,h.l,h.cq,h.cl⟩,⟨λi h=>?_,λhl h i hi=>?_⟩⟩;rotate_left
 .rw[h0]at h
  show atD false (y.fin.set k true) i=true;exact qz1 h
 .show(atD Tk0 (s.tk.set k { atD Tk0 s.tk k with done:=true }) i).done=true;rw[Me.atD_set _ _ _ _ _ zo];by_cases q:i=k
  .rw[if_pos q]
  .rw[if_neg q];refine h i ?_;rw[h0];exact qz2 q hi
 simp only[List.length_set]at hi hd ⊢;rw[qcy _ _ _ _ hk];by_cases q:i=k
 .rw[if_pos q]
 .rw[if_neg q];refine h i hi ?_;rw[<- hd,Me.atD_set _ _ _ _ _ zo,if_neg q]
section
variable{W w:World} {o:Gh} {pt c:Nat} {x:Cx} {s:Ce} (R:CeR w o pt c x s)
include R
def StQ(W wo:World) (o:Gh) (pt c p:Nat) (s tgt:Ce) (wr:World) (n:Nat):Prop :=
 ∃ (o':Gh) (x':Cx) (s':Ce) (m:Nat),Mv (PaL pt) o wo o' wr/\Bas W wr o'/\x'.p=p/\CeR wr o' pt c x' s'/\q3u q0p m s'=tgt/\ndN s'.tk=n/\n < m/\Sta W s'/\s'.tab.length=s'.tk.length/\DN s'/\s'.slk≠none/\s'.sk.has=s.sk.has/\s'.tk.length=s.tk.length/\s'.evs.length + n<=s.evs.length + s.tk.length
theorem qc1(H:Sta W s) (B:Bas W w o) (hl:s.tab.length=s.tk.length) (hd:DN s) (hs:s.slk≠none) (hh:s.tk.length<=s.sk.has.length) (he:s.evs.length<=99999999900):cP 249 #[pp c] w λe w'=>Aft w o pt c x.p (q2n s) (.tuple #[]) e w':=by
 have hn8:=H.n8;have H3:StQ W w o pt c x.p s (q2n s) w (ndN s.tk):=⟨o,x,s,s.tk.length + 1,Mv.refl _ _ _,B,rfl,R,rfl,rfl,by have:=qu2 s.tk;omega,H,hl,hd,hs,rfl,rfl,by have:=qu2 s.tk;omega⟩
 generalize q2n s=tgt at *;obtain⟨wo,rfl⟩:∃ wo:World,wo=w:=⟨_,rfl⟩
 refine inC ?_;go_in;go_wp2_with fail;go_loopw [2] (λ_ wr=>∃ n,StQ W wo o pt c x.p s tgt wr n) (λ_ wr=>q3w (StQ W wo o pt c x.p s tgt wr))
 case atStart=>exact⟨_,H3⟩
 case round =>
  clear H3 R hl hd hs B H;obtain⟨n0,h0⟩:=hrel;have hq:=(q16 h0).1;clear h0;have h3:Hid (∀ w' n',StQ W wo o pt c x.p s tgt w' n'->n' < q3w (StQ W wo o pt c x.p s tgt wr)->(∃ n,StQ W wo o pt c x.p s tgt w' n)/\q3w (StQ W wo o pt c x.p s tgt w') < q3w (StQ W wo o pt c x.p s tgt wr)):=λw' n' h hlt=>⟨⟨n',h⟩,Nat.lt_of_le_of_lt ((q16 h).2 n' h) hlt⟩
  obtain⟨o',x',s',m,M,B',H6,R',h1,hn,hm,H',h8,h7,h6,h9,ha,hg⟩:=hq;have hf:=zhd H6;clear H6;have H0:=R'.c12;have c15:=R'.c15;have lt:=R'.k.1.lt;have hP:=qem R'.tb.1;have H1:q22 q4n s'.tab s'.tab.length=q7h s':=rfl;rw[H1]at hP
  clear H1;by_cases qm:s'.mode=3
  .by_cases q:0<=q7h s'
   .obtain⟨j,fj,hj,H8⟩:=qdj q;have hk:j < s'.tk.length:=zo;obtain⟨y,hy⟩:=Option.ne_none_iff_exists'.1 h6;obtain⟨b,hp⟩:=R'.slkOf hy;have S:=R'.slkAt hy hp;have hr:s'.sk=y:=by unfold Ce.sk;rw[hy];rfl
    have hv:j < y.has.length:=by rw[<- hr,h9];omega
    have ht:=R'.c20;rw[hp]at ht
    rw[fj]at hP
    have h2:q0p s'=if 0 < at0 y.has j then none else some (q1c (q57 s' j) (0:Nat) j):=by
     unfold q0p;rw[if_neg (by simpa using qm),fj,Int.toNat_natCast,hr];by_cases h:0 < at0 y.has j
     .rw[if_pos (.inr h),if_pos h]
     .rw[if_neg (by rintro(h' | h');omega;exact h h'),if_neg h];rfl
    rw[qm]at H0
    by_cases qh:0 < at0 y.has j
    .have h5:Hid (q0p s'=none):=h2.trans (if_pos qh);have HT:=zhd h1;have b1:decide (0 < at0 y.has j)=true:=decide_eq_true qh;clear h2 h1 hn hm h8 h7 h6 h9 ha hg h3 hr hy hp q qm qh fj;go_wp2_with (first | (go_at_call 297;refine hP.mono ?_;rintro _ w1 ⟨rfl,hb⟩;have hu:=(qcl hb).1 c 20 lt;rw[ht]at hu;have le:=Nat.lt_of_lt_of_le lt hb.size) | (go_at_call 254;refine(qgr (S.1.keep hb) hv).mono ?_;rintro _ _ ⟨rfl,rfl⟩));go_returns;refine⟨rfl,o',M.trans (Mv.below hb),x',hf.out,?_⟩;rw[<- HT.out,q1s h5.out];exact R'.blw hb
    .have h5:Hid (q0p s'=some (q1c (q57 s' j) (0:Nat) j)):=h2.trans (if_neg qh);have b1:decide (0 < at0 y.has j)=false:=decide_eq_false qh;have hc:=q7x (s:=s') (k:=j) hj h6;have hR:=λ{w1:World} (h:bW wr w1)=>qim (R'.blw h) (k:=j) hk zo h6 (λy' hy'=>by rw[hy]at hy';cases hy';exact hv);have H5:=q62 (q57 s' j) 0 j;have hF:=λ{w1:World} {o1:Gh} {x1:Cx} (h:CeR w1 o1 pt c x1 (q57 s' j)) (B1:Bas W w1 o1)=>q8f h (k:=j) (kd:=0) (hc.sta H') B1 (by rw[hc.tk];exact hk) zd (by have:=hc.len;omega);have h4:(atD Tk0 s'.tk j).done=false:=by
      cases q3:(atD Tk0 s'.tk j).done with
      | false=>rfl
      | true=>have:=h7 j hk q3;rw[H8]at this;cases this
     have H9:ndN (q57 s' j).tk + 1=ndN s'.tk:=qo3 s'.tk j _ hk h4 rfl;have hz:=(qs1 (q57 s' j) (0:Nat) j).nd;have hx:=hc.trans H5;have H2:(q1c (q57 s' j) (0:Nat) j).slk≠none:=by
      intro e;have h:=hx.so;rw[e,hy]at h
      cases h
     have HQ:Hid (∀ w1 o1 x1,Mv (PaL pt) o wo o1 w1->Bas W w1 o1->x1.p=x.p->CeR w1 o1 pt c x1 (q1c (q57 s' j) (0:Nat) j)->StQ W wo o pt c x.p s tgt w1 (ndN (q1c (q57 s' j) (0:Nat) j).tk)/\ndN (q1c (q57 s' j) (0:Nat) j).tk < q3w (StQ W wo o pt c x.p s tgt wr)):=λw1 o1 x1 m1 B1 hx1 R1 =>
      ⟨⟨o1,x1,_,m - 1,m1,B1,hx1,R1,(q7u h5.out zo).symm.trans h1,rfl,zo,hx.sta H',by rw[hx.tb,hx.tk];exact h8,hx.dn h8 h7,H2,by rw[hx.sh];exact h9,by rw[hx.tk];exact ha,by have:=hx.len;omega⟩,zo⟩
     clear H2 h2 h1 hn hm h8 h7 h6 h9 ha hg hr hy hp q qm qh hx H5 H9 hz h4 hc H' fj;go_wp2_with (first | (go_at_call 297;refine hP.mono ?_;rintro _ w1 ⟨rfl,hb⟩;have hu:=(qcl hb).1 c 20 lt;rw[ht]at hu;have le:=Nat.lt_of_lt_of_le lt hb.size) | (go_at_call 254;refine(qgr (S.1.keep hb) hv).mono ?_;rintro _ _ ⟨rfl,rfl⟩) | (go_at_call 298;refine(hR hb).mono ?_;rintro _ w2 ⟨rfl,o2,m2,x2,H4,R2⟩;have H7:=zhd (H4.trans hf.out);clear H4;have B2:=(B'.go (L:=λ_=>False) (Mv.below hb) id).go m2 PaL.nf) | (go_at_call 289;refine(hF R2 B2).mono ?_;rintro _ w3 ⟨rfl,o3,m3,x3,Ha,R3⟩));obtain⟨g1,g2⟩:=HQ.out w3 o3 x3 ((M.trans (Mv.below hb)).trans (m2.trans m3)) (B2.go m3 PaL.nf) (Ha.trans H7.out) R3;exact h3.out _ _ g1 g2
   .have h5:Hid (q0p s'=none):=by
     unfold Hid q0p;rw[if_neg (by simpa using qm),if_pos (.inl zo)]
    have HT:=zhd h1;have b1:decide (q7h s' < 0)=true:=decide_eq_true zo;rw[qm]at H0
    clear h1 hn hm h8 h7 h6 h9 ha hg h3 q qm;go_wp2_with (first | (go_at_call 297;refine hP.mono ?_;rintro _ w1 ⟨rfl,hb⟩));go_returns;refine⟨rfl,o',M.trans (Mv.below hb),x',hf.out,?_⟩;rw[<- HT.out,q1s h5.out];exact R'.blw hb
  .have h5:Hid (q0p s'=none):=by
    unfold Hid q0p;rw[if_pos qm]
   have HT:=zhd h1;have b1:(s'.mode == 3)=false:=beq_eq_false_iff_ne.2 qm;clear h1 hn hm h8 h7 h6 h9 ha hg h3 qm;go_wp2_with fail;go_returns;refine⟨rfl,o',M,x',hf.out,?_⟩;rw[<- HT.out,q1s h5.out];exact R'
end
theorem qdk(f:Ce->Int->Ce) (z:Ce) {l:List Int} {k:Nat} (h:k < l.length):(l.take (k + 1)).foldl f z=f ((l.take k).foldl f z) (at0 l k):=by
 rw[List.take_succ_eq_append_getElem h,List.foldl_append,q2v h];rfl
theorem q2u{f:Ce->Int->Ce} (hf:∀ s k,Ext 1 s (f s k)):∀ (l:List Int) (s:Ce),Ext l.length s (l.foldl f s)
 | [],s=>Ext.refl s
 | a :: l,s=>((hf s a).trans (q2u hf l (f s a))).mono (by simp;omega)
theorem q9h(s:Ce) (k:Int):Ext 1 s (qd8 s k):=by
 unfold qd8;split
 .exact q18 zd zd
 .exact q18 zd zd
theorem qs2{p:Rw->Bool} {l:List Rw} {k:Nat} (h:a ∈ qbc p l k):∃ j:Nat,a=j/\j < k:=by
 unfold qbc at h;obtain⟨j,hj,rfl⟩:=List.mem_map.1 h;exact⟨j,rfl,by have:=(List.mem_filter.1 hj).1;simpa using this⟩
theorem qo5{l:List Int} {k:Nat} (h:k < l.length):at0 l k ∈ l:=by rw[q2v h];exact List.getElem_mem h
theorem q4q.int{o:Gh} {k:Nat} {l:List Int} (h:q4q w o .data 3 1 A n c (l.map (.int .i64))) (hk:k < l.length) (hn:l.length=n):∃ b,A=some ⟨b,0,none⟩/\b < w.heap.size/\w.cell? ⟨b,k,none⟩=some (ii (at0 l k)):=by
 obtain⟨g,hg⟩:=h.1.head zo;obtain⟨b,f,e,hb,hc⟩:=h.1.sl.at_ zo;rw[hg]at e
 cases e;refine⟨g,hg,hb,?_⟩;have:=hc k (ii (at0 l k)) (by rw[List.getElem?_map,List.getElem?_eq_getElem hk,q2v hk];rfl);simpa using this
section
variable{W w:World} {o:Gh} {pt c:Nat} {x:Cx} {s:Ce} (R:CeR w o pt c x s)
include R
theorem qo6(hl:s.tab.length=s.tk.length) (h8:s.tk.length<=8) (he:s.evs.length<=99999999900):cP 248 #[pp c] w λe w'=>Aft w o pt c x.p (q36 s) (.tuple #[]) e w':=by
 have lt:=R.k.1.lt;have hd:=R.c15;have hc:=R.c13;have h7:=(Below.refl w.heap.size w).drew;have hD:=qqo (R.tb.1.keep h7) (win:=s.win);unfold qi2 at hD;have hf:∀ a ∈ qbc (qdw s.win) s.tab s.tab.length,∃ j:Nat,a=j/\j < s.tk.length:=λa h=>by obtain⟨j,h1,h2⟩:=qs2 h;exact⟨j,h1,zo⟩
 have hLl:(qbc (qdw s.win) s.tab s.tab.length).length<=8:=Nat.le_trans (q99 _ _ _) zo;have HE:Hid (q36 s=(qbc (qdw s.win) s.tab s.tab.length).foldl qd8 s):=rfl;generalize qbc (qdw s.win) s.tab s.tab.length=L at *;obtain⟨wo,rfl⟩:∃ wo:World,wo=w:=⟨_,rfl⟩
 refine inC ?_;go_in;go_wp2_with fail;refine zW [(8,0)] λK' hK'=>?_;go_wp2_with fail;refine hD.mono ?_;rintro _ w2 ⟨A,cA,rfl,h5,hA,h4⟩;replace h4:bW wo w2:=h7.trans h4;refine zGZ (fO h4 _) ?_;clear hK' K';go_wp2_with fail;have m1:Mv (PaL pt) o wo (lay wo o .data) w2:=Mv.lay (S:=λ_=>False) .data (fO h4 _) (λ_ _ h=>h.elim);have R1:=R.go (L:=λ_=>False) (o':=lay wo o .data) (w':=w2) ⟨fO h4 _,m1.a⟩ (λ_ h=>h.elim) id;have hO:q4q w2 (lay wo o .data) .data 3 1 A L.length cA (L.map (.int .i64)):=⟨h5,λk hk=>q07 (hA k hk)⟩
 clear h5 hA h4 h7 hD;go_loopw [18] (λi wr=>∃ (k:Nat) (o':Gh) (x':Cx),i = .int .i64 k/\k<=L.length/\Mv (PaL pt) o wo o' wr/\x'.p=x.p/\CeR wr o' pt c x' ((L.take k).foldl qd8 s)/\q4q wr o' .data 3 1 A L.length cA (L.map (.int .i64))) (λi _=>L.length - (intOf i).toNat)
 case atStart=>exact⟨0,_,x,rfl,Nat.zero_le _,m1,rfl,R1,hO⟩
 case round =>
  clear m1 R1 hO R hc hd lt;obtain⟨k,o',x',rfl,hkn,M,hb,R2,hO⟩:=hrel;have h6:=zhd hb;clear hb;by_cases hk:k < L.length
  .have hw1:wrap64 ((k:Int) + 1)=((k + 1:Nat):Int):=by unfold wrap64;omega
   obtain⟨b,rfl,hbl,hg⟩:=hO.int hk rfl;obtain⟨j,hj,hh⟩:=hf _ (qo5 hk);have hx:=q2u q9h (L.take k) s;have ha:=qdk qd8 s hk;generalize (L.take k).foldl qd8 s=s' at *;rw[hj]at hg
   have hw:qd8 s' (at0 L k)=q09 s' j (q3o s'.tab j).1.call (if (q3o s'.tab j).1.call=2 then 0 else 5) 0:=by rw[hj];rfl
   have hm:(L.take k).length<=8:=by rw[List.length_take];omega
   have hC:=λ{w1:World} (h:bW wr w1) (cl cd:Int)=>q4b (R2.blw h) (k:=j) (call:=cl) (code:=cd) (v:=0) (by rw[hx.tk];exact hh) (by rw[hx.tk];exact h8) (by have:=hx.len;omega);have hW:=qjm R2.tb.1 (k:=j) (by unfold i64;omega);have e15:=R2.c15;have le:=R2.k.1.lt;have h0:Hid ((L.take (k + 1)).foldl qd8 s=q09 s' j (q3o s'.tab j).1.call (if (q3o s'.tab j).1.call=2 then 0 else 5) 0):=ha.trans hw;clear ha hw hx hj hm R2;generalize q3o s'.tab j=F at *;by_cases q:F.1.call=2
   .rw[if_pos q]at h0
    have h0:=zhd h0.out;rw[q]at hW h0
    clear q;go_wp2_with (first | (go_at_call 296;refine hW.mono ?_;rintro _ w3 ⟨rfl,h3⟩;have l3:=Nat.lt_of_lt_of_le le h3.size) | (go_at_call 292;refine(hC h3 _ _).mono ?_;rintro _ w4 ⟨rfl,o4,m4,x4,h9,R4⟩));rw[<- h0.out]at R4
    have m5:=(Mv.below (L:=PaL pt) (o:=o') h3).trans m4;exact⟨⟨k + 1,o4,x4,by go_num,hk,M.trans m5,h9.trans h6.out,R4,hO.go m5 PaL.nd⟩,by simp[intOf];omega⟩
   .rw[if_neg q]at h0
    have h0:=zhd h0.out;have b1:(F.1.call == 2)=false:=beq_eq_false_iff_ne.2 q;clear q;go_wp2_with (first | (go_at_call 296;refine hW.mono ?_;rintro _ w3 ⟨rfl,h3⟩;have l3:=Nat.lt_of_lt_of_le le h3.size) | (go_at_call 292;refine(hC h3 _ _).mono ?_;rintro _ w4 ⟨rfl,o4,m4,x4,h9,R4⟩));rw[<- h0.out]at R4
    have m5:=(Mv.below (L:=PaL pt) (o:=o') h3).trans m4;exact⟨⟨k + 1,o4,x4,by go_num,hk,M.trans m5,h9.trans h6.out,R4,hO.go m5 PaL.nd⟩,by simp[intOf];omega⟩
  .obtain rfl:k=L.length:=zo;go_wp2_with fail;go_returns;rw[List.take_length]at R2
   exact⟨rfl,o',M,x',h6.out,by rw[HE.out];exact R2⟩
end
theorem qdl(win:Int) (l:List Rw) (tn:Int):∀ k,(q5u win l tn k).l.length=l.length/\(q5u win l tn k).rel.length + (q5u win l tn k).mis.length<=k/\(∀ a ∈ (q5u win l tn k).rel,∃ j:Nat,a=j/\j < k)/\(∀ a ∈ (q5u win l tn k).mis,∃ j:Nat,a=j/\j < k)
 | 0=>⟨rfl,nL,(λa h=>by cases h),(λa h=>by cases h)⟩
 | k + 1=>by
  obtain⟨h1,h2,h3,h4⟩:=qdl win l tn k;rw[qa4];generalize q5u win l tn k=s at *;unfold qa3;split
  .exact⟨h1,zo,λa h=>by obtain⟨j,e,hj⟩:=h3 a h;exact⟨j,e,zo⟩,λa h=>by obtain⟨j,e,hj⟩:=h4 a h;exact⟨j,e,zo⟩⟩
  .split
   .refine⟨by simp[h1],by simp only[List.length_append,List.length_singleton];omega,λa h=>?_,λa h=>by obtain⟨j,e,hj⟩:=h4 a h;exact⟨j,e,zo⟩⟩;rcases List.mem_append.1 h with h | h
    .obtain⟨j,e,hj⟩:=h3 a h;exact⟨j,e,zo⟩
    .exact⟨k,List.mem_singleton.1 h,zo⟩
   .refine⟨by simp[h1],by simp only[List.length_append,List.length_singleton];omega,λa h=>by obtain⟨j,e,hj⟩:=h3 a h;exact⟨j,e,zo⟩,λa h=>?_⟩;rcases List.mem_append.1 h with h | h
    .obtain⟨j,e,hj⟩:=h4 a h;exact⟨j,e,zo⟩
    .exact⟨k,List.mem_singleton.1 h,zo⟩
theorem qs3{k:Nat} (h:k < n):n - (intOf (ii ((k:Int) + 1))).toNat < n - (intOf (ii (k:Int))).toNat:=by simp[intOf];omega
def q3y(s:Ce) (k:Int):Ce:=q0i s k 1 0 0
def q3z(s:Ce) (k:Int):Ce:=if s.mode=3 then q1c s 4 k.toNat else s
theorem q6y(s:Ce) (k:Int):Ext 1 s (q3y s k):=q9g (by rintro(⟨e,_⟩ | ⟨e,_⟩) <;> simp at e)
theorem qak(s:Ce) (k:Int):Ext 1 s (q3z s k):=by
 unfold q3z;split
 .exact q62 s 4 _
 .exact(Ext.refl s).mono zo
section
variable{W w:World} {o:Gh} {pt c:Nat} {x:Cx} {s:Ce} (R:CeR w o pt c x s)
include R
theorem qfi(H:Sta W s) (B:Bas W w o) (hl:s.tab.length=s.tk.length) (he:s.evs.length<=99999999900):cP 245 #[pp c] w λe w'=>Aft w o pt c x.p (q0c s) (.tuple #[]) e w':=by
 have h8:=H.n8;have lt:=R.k.1.lt;have hz:=R.c15;have hy:=R.c13;have hh:=(Below.refl w.heap.size w).drew;have hD:=qeo (R.tb.1.keep hh) (win:=s.win);unfold qy0 at hD;obtain⟨r1,r2,r3,r4⟩:=qdl s.win s.tab s.tn s.tab.length;have HE:Hid (q0c s=(q5u s.win s.tab s.tn s.tab.length).mis.foldl q3z ((q5u s.win s.tab s.tn s.tab.length).rel.foldl q3y (q6a s ((q5u s.win s.tab s.tn s.tab.length).l,(q5u s.win s.tab s.tn s.tab.length).tn)))):=rfl;generalize q5u s.win s.tab s.tn s.tab.length=r at *;obtain⟨rl,rt,rr,rm⟩:=r;simp only at r1 r2 r3 r4 hD HE;have hu:∀ {w1:World} {o1:Gh},Mv (λy=>y = .tab pt) o w o1 w1->TbR w1 x.t x.mb rl rt->CeR w1 o1 pt c x (q6a s (rl,rt)):=λm T=>R.setTab m T;have q1:(q6a s (rl,rt)).tk.length=s.tk.length:=rfl;have q2:(q6a s (rl,rt)).evs.length=s.evs.length:=rfl;have H1:Sta W (q6a s (rl,rt)):=⟨H.cf,H.dp,H.n8,H.p8⟩
 have hv:=λ{w1:World} (f:Fr (TbS x.t x.mb) w.drew w1)=>(R.tb.go (L:=λ_=>False) (Mv.below hh) id).mv f;generalize q6a s (rl,rt)=s1 at *;obtain⟨n,hn⟩:∃ n,n=s.tk.length:=⟨_,rfl⟩
 rw[hl,<- hn]at r2 r3 r4
 rw[<- hn]at q1
 have HQ:Hid (s1.tk.length=n/\s1.evs.length=s.evs.length/\rr.length + rm.length<=n/\n<=8):=⟨q1,q2,r2,zo⟩
 have hrl:rr.length<=8:=by obtain⟨_,_,h3,h4⟩:=HQ.out;omega
 have hrm:rm.length<=8:=by obtain⟨_,_,h3,h4⟩:=HQ.out;omega
 clear hn q1 q2 r1 r2;obtain⟨wo,rfl⟩:∃ wo:World,wo=w:=⟨_,rfl⟩
 refine inC ?_;go_in;go_wp2_with fail;refine zB [(8,2)] λK' hK'=>?_;go_wp2_with fail;refine hD.mono ?_;rintro _ w2 ⟨⟨A,cA,B0,cB,rfl,hr,hs,hA,hB⟩,T2,f2⟩;refine zE ?_;clear hK' K';have m0:Mv (λy=>y = .tab pt) o wo (lay wo o .data) w2:=⟨((Mv.below hh).trans (hv f2)).f,λj hj=>q0l hj⟩
 have R1:=hu m0 T2;have m1:Mv (PaL pt) o wo (lay wo o .data) w2:=m0.pa rfl;have B1:=B.go m1 PaL.nf;have hc:q4q w2 (lay wo o .data) .data 3 1 A rr.length cA (rr.map (.int .i64)):=⟨hr,λk hk=>q07 (hA k hk)⟩
 have h0:q4q w2 (lay wo o .data) .data 3 1 B0 rm.length cB (rm.map (.int .i64)):=⟨hs,λk hk=>q07 (hB k hk)⟩
 clear hr hs hA hB hh hD hv T2 f2 m0 hu hy hz lt R B hl;go_wp2_with fail;go_loopw [22] (λi wr=>∃ (k:Nat) (o':Gh) (x':Cx),i = .int .i64 k/\k<=rr.length/\Mv (PaL pt) o wo o' wr/\Bas W wr o'/\x'.p=x.p/\CeR wr o' pt c x' ((rr.take k).foldl q3y s1)/\q4q wr o' .data 3 1 A rr.length cA (rr.map (.int .i64))/\q4q wr o' .data 3 1 B0 rm.length cB (rm.map (.int .i64))) (λi _=>rr.length - (intOf i).toNat)
 case atStart=>exact⟨0,_,x,rfl,Nat.zero_le _,m1,B1,rfl,R1,hc,h0⟩
 case round =>
  clear m1 R1 hc h0 B1;obtain⟨k,o',x',rfl,hkn,M,B2,hg,R2,hc,h0⟩:=hrel;have h9:=zhd hg;clear hg;by_cases hk:k < rr.length
  .have H5:wrap64 ((k:Int) + 1)=((k + 1:Nat):Int):=by unfold wrap64;omega
   obtain⟨b,rfl,H3,ht⟩:=hc.int hk rfl;have hx:=q2u q6y (rr.take k) s1;have hf:=qdk q3y s1 hk;have hd:((rr.take k).foldl q3y s1).evs.length<=100000000000:=by
    have h1:=hx.len;have h2:(rr.take k).length<=k:=by rw[List.length_take];omega
    obtain⟨h3,h4,h5,h6⟩:=HQ.out;omega
   have hC:=λkk=>q9f R2 (k:=kk) (call:=1) (code:=0) (v:=0) hd;generalize (rr.take k).foldl q3y s1=s' at *;have hb:Hid ((rr.take (k + 1)).foldl q3y s1=q0i s' (at0 rr k) 1 0 0):=hf;clear hf hx R2 hd;generalize at0 rr k=kk at *;go_wp2_with (first | (go_at_call 288;refine(hC _).mono ?_;rintro _ w4 ⟨rfl,o4,m4,x4,hp,R4⟩));rw[<- hb.out]at R4
   exact⟨⟨k + 1,o4,x4,by go_num,hk,M.trans m4,B2.go m4 PaL.nf,hp.trans h9.out,R4,hc.go m4 PaL.nd,h0.go m4 PaL.nd⟩,qs3 hk⟩
  .obtain rfl:k=rr.length:=zo;rw[List.take_length]at R2
   have hm:=q2u q6y rr s1;have H2:=hm.sta H1;have hq:Hid ((rr.foldl q3y s1).tk.length=n/\(rr.foldl q3y s1).evs.length + rm.length<=s.evs.length + n/\n<=8):=by
    obtain⟨e1,e2,e3,e4⟩:=HQ.out;have:=hm.len;exact⟨hm.tk.trans e1,zo,e4⟩
   generalize rr.foldl q3y s1=s2 at *;clear hm hc;go_wp2_with fail;go_loopw [32] (λi wr=>∃ (k:Nat) (o':Gh) (x':Cx),i = .int .i64 k/\k<=rm.length/\Mv (PaL pt) o wo o' wr/\Bas W wr o'/\x'.p=x.p/\CeR wr o' pt c x' ((rm.take k).foldl q3z s2)/\q4q wr o' .data 3 1 B0 rm.length cB (rm.map (.int .i64))) (λi _=>rm.length - (intOf i).toNat)
   case atStart=>exact⟨0,o',x',rfl,Nat.zero_le _,M,B2,h9.out,R2,h0⟩
   case round =>
    clear M B2 R2 h0 h9;obtain⟨k,o',x',rfl,hkn2,M,B2,hg,R2,h0⟩:=hrel;have h9:=zhd hg;clear hg;by_cases ha:k < rm.length
    .have H5:wrap64 ((k:Int) + 1)=((k + 1:Nat):Int):=by unfold wrap64;omega
     obtain⟨b,rfl,H3,ht⟩:=h0.int ha rfl;obtain⟨j,hj,H4⟩:=r4 _ (qo5 ha);have hx:=q2u qak (rm.take k) s2;have hf:=qdk q3z s2 ha;have hd:((rm.take k).foldl q3z s2).evs.length<=100000000000:=by
      have h1:=hx.len;have h2:(rm.take k).length<=k:=by rw[List.length_take];omega
      obtain⟨h3,h4,h5⟩:=hq.out;omega
     have hC:=λ(h:j < ((rm.take k).foldl q3z s2).tk.length)=>q8f R2 (k:=j) (kd:=4) (hx.sta H2) B2 h zd;replace hC:=hC (by rw[hx.tk,hq.out.1];exact H4) hd;have H0:=R2.c12;have le:=R2.k.1.lt;generalize (rm.take k).foldl q3z s2=s' at *;have hw:q3z s' (at0 rm k)=if s'.mode=3 then q1c s' (4:Nat) j else s':=by rw[hj];rfl
     have hb:Hid ((rm.take (k + 1)).foldl q3z s2=if s'.mode=3 then q1c s' (4:Nat) j else s'):=hf.trans hw;rw[hj]at ht
     clear hf hw hx hj hd;by_cases q:s'.mode=3
     .have h7:=zhd (hb.out.trans (if_pos q));clear hb;rw[q]at H0
      clear q R2;go_wp2_with (first | (go_at_call 289;refine hC.mono ?_;rintro _ w4 ⟨rfl,o4,m4,x4,hp,R4⟩));rw[<- h7.out]at R4
      exact⟨⟨k + 1,o4,x4,by go_num,ha,M.trans m4,B2.go m4 PaL.nf,hp.trans h9.out,R4,h0.go m4 PaL.nd⟩,qs3 ha⟩
     .have h7:=zhd (hb.out.trans (if_neg q));have b1:(s'.mode == 3)=false:=beq_eq_false_iff_ne.2 q;clear hb hC q;go_wp2_with fail;rw[<- h7.out]at R2
      exact⟨⟨k + 1,o',x',by go_num,ha,M,B2,h9.out,R2,h0⟩,qs3 ha⟩
    .obtain rfl:k=rm.length:=zo;go_wp2_with fail;go_returns;rw[List.take_length]at R2
     exact⟨rfl,o',M,x',h9.out,by rw[HE.out];exact R2⟩
end
theorem qdm{s:Ce} (h:0<=q06 s):s.mode=3/\(∃ y,s.slk=some y)/\∃ j:Nat,q06 s=j/\j < s.tab.length:=by
 unfold q06 at h ⊢;split at h
 .omega
 .rename_i q;rw[if_neg q];obtain⟨j,h1,h2,_⟩:=qdj h;refine⟨Classical.byContradiction λe=>q (.inr e),?_,j,h1,h2⟩;cases hs:s.slk with
  | none=>exact absurd (.inl (by rw[hs];rfl)) q
  | some y=>exact⟨y,rfl⟩
section
variable{W w:World} {o:Gh} {pt c:Nat} {x:Cx} {s:Ce} (R:CeR w o pt c x s)
include R
theorem next_any:cP 253 #[pp c] w λe w'=>e = .returned (ii (q06 s))/\bW w w':=by
 have hD:=q60 R;have h1:=R.c12;have c15:=R.c15;have h0:=R.c20;have lt:=R.k.1.lt;have hP:=qem R.tb.1;have HE:Hid (q06 s=if s.slk.isNone=true\/s.mode≠3 then -1 else q22 q4n s.tab s.tab.length):=rfl;rcases R.sk with ⟨e1,e2⟩ | ⟨y,b,e1,e2,S⟩
 .rw[e2]at h0
  have HS:=zhd (HE.out.trans (if_pos (.inl (by rw[e1];rfl))));refine inC ?_;go_in;go_wp2_with (first | (go_at_call 123;refine(hD).mono ?_;rintro _ _ ⟨rfl,rfl⟩));go_returns;exact⟨q0w HS.out.symm,bR⟩
 .rw[e2]at h0
  by_cases q:s.mode=3
  .have HS:=zhd (HE.out.trans (if_neg (by rw[e1];simp[q])));rw[q]at h1
   generalize q22 q4n s.tab s.tab.length=v at *;clear q;refine inC ?_;go_in;go_wp2_with (first | (go_at_call 123;refine(hD).mono ?_;rintro _ _ ⟨rfl,rfl⟩) | (go_at_call 297;refine hP.mono ?_;rintro _ w1 ⟨rfl,hb⟩));go_returns;exact⟨q0w HS.out.symm,hb⟩
  .have HS:=zhd (HE.out.trans (if_pos (.inr q)));have b1:(s.mode != 3)=true:=by simpa using q
   refine inC ?_;go_in;go_wp2_with (first | (go_at_call 123;refine(hD).mono ?_;rintro _ _ ⟨rfl,rfl⟩));go_returns;exact⟨q0w HS.out.symm,bR⟩
theorem qs4:cP 190 #[pp c] w λe w'=>e = .returned (ii (qgz s))/\bW w w':=by
 have hN:=next_any R;have h1:=R.c20;have lt:=R.k.1.lt;by_cases q:q06 s < 0
 .have HE:Hid (qgz s=0):=if_pos q;have b1:decide (q06 s < 0)=true:=decide_eq_true q;generalize q06 s=v at *;clear q;refine inC ?_;go_in;go_wp2_with (first | (refine uW hN ?_;rintro w1 ⟨hb,hs,hc,hf,hl,hB⟩));go_returns;exact⟨q0w HE.out.symm,hB⟩
 .have HE:Hid (qgz s=qgu s.sk):=if_neg q;have b1:decide (q06 s < 0)=false:=decide_eq_false q;obtain⟨_,⟨y,hy⟩,_⟩:=qdm (s:=s) zo;obtain⟨b,h0⟩:=R.slkOf hy;have S:=R.slkAt hy h0;rw[h0]at h1
  have h3:s.sk=y:=by unfold Ce.sk;rw[hy];rfl
  rw[h3]at HE
  have hS:=λ{w1:World} (h:bW w w1)=>qa6 (S.1.keep h) (Nat.lt_of_lt_of_le S.2.2.1 h.size);generalize q06 s=v at *;clear q;refine inC ?_;go_in;go_wp2_with (first | (refine uW hN ?_;rintro w1 ⟨hb,hs,hc,hf,hl,hB⟩) | (go_at_call 260;refine(hS hB).mono ?_;rintro _ w2 ⟨rfl,h2⟩));go_returns;exact⟨q0w HE.out.symm,bt hB h2⟩
theorem qir(hl:s.tab.length=s.tk.length) (hh:s.tk.length<=s.sk.has.length):cP 188 #[pp c] w λe w'=>e = .returned (ii (q58 s))/\bW w w':=by
 have hN:=next_any R;have h4:=R.c20;have h3:=R.c14;have lt:=R.k.1.lt;by_cases q:q06 s < 0
 .have HE:Hid (q58 s=0):=if_pos q;have b1:decide (q06 s < 0)=true:=decide_eq_true q;generalize q06 s=v at *;clear q;refine inC ?_;go_in;go_wp2_with (first | (refine uW hN ?_;rintro w1 ⟨hb,hs,hc,hf,hl,hB⟩));go_returns;exact⟨q0w HE.out.symm,hB⟩
 .have HE:Hid (q58 s=min (min (atD Tk0 s.tk (q06 s).toNat).rest (at0 s.sk.has (q06 s).toNat)) s.sk.room):=if_neg q;obtain⟨_,⟨y,hy⟩,j,hj,hjt⟩:=qdm (s:=s) zo;obtain⟨b,h0⟩:=R.slkOf hy;have S:=R.slkAt hy h0;rw[h0]at h4
  have h1:s.sk=y:=by unfold Ce.sk;rw[hy];rfl
  rw[h1,hj,Int.toNat_natCast]at HE
  rw[h1]at hh
  rw[hj]at hN
  have h2:j < s.tk.length:=zo;have h5:j < y.has.length:=zo;obtain⟨hp,hd,T⟩:=R.tk j h2;obtain⟨tc,tl⟩:=T.k.1.cl;obtain⟨a,hA,hal,hac⟩:=R.task h2;rw[hA]at h3
  generalize (atD Tk0 s.tk j)=tt at *;clear hA T q hj hl hh hy h0 h1;refine inC ?_;go_in;go_wp2_with (first | (refine uW hN ?_;rintro w1 ⟨hb,hs,hc,hf,hl,hB⟩));have S1:=S.1.keep hB;have hm3:=λts t x y z w=>qhz (P:=Tryz.prog) ts t x y z w;refine zW [(15,0),(4,0)] λK' hK'=>?_;go_wp2_with fail;have b2:=(Below.refl w1.heap.size w1).drew;refine(qgr (S1.keep b2) h5).mono ?_;rintro _ _ ⟨rfl,rfl⟩;refine zGW (fO b2 _) ?_;clear hK' K';intro K' hK';go_wp2_with fail;refine(qmh (S1.keep b2)).mono ?_;rintro _ _ ⟨rfl,rfl⟩;refine zGZ (fO b2 _) ?_;clear hK' K';go_wp2_with fail;go_returns;exact⟨q0w (by have:=HE.out;omega),bt hB b2⟩
theorem qw4:cP 131 #[pp c] w λe w'=>e = .returned (ii s.win)/\w=w':=by
 have hD:=q60 R;have c13:=R.c13;have lt:=R.k.1.lt;refine inC ?_;go_in;go_wp2_with (go_at_call 123;refine(hD).mono ?_;rintro _ _ ⟨rfl,rfl⟩);go_returns;exact⟨rfl,rfl⟩
theorem qkj:cP 60 #[pp c] w λe w'=>e = .returned (pp x.p)/\w=w':=by
 have hD:=q60 R;have c17:=R.c17;have lt:=R.k.1.lt;refine inC ?_;go_in;go_wp2_with (go_at_call 123;refine(hD).mono ?_;rintro _ _ ⟨rfl,rfl⟩);go_returns;exact⟨rfl,rfl⟩
end
end Go.Proofs.YtncfcbohiodnnaaGreat
