/- Parts of this seat's claims. -/
import Derived.Test.YtncfcbohiodnnaaGreatWX2
import Derived.Deep.RegionLaw
set_option maxRecDepth 100000
set_option maxHeartbeats 6400000
namespace Go.Proofs.YtncfcbohiodnnaaGreat
open Go.RowKit
variable{w w' W wa wo W':World}{c n pt r B j b m mb q base cap id B0:Nat}{A:Option Addr}{a code what:Int}{cs:Array Value}
def qv(w:World)(o:Gh)(l:Lb)(v:Value):Bx->Prop
 | .que m d=>∃q A cap,∃hs:List (Hd UInt8),v=.iface 397 (pp q)/\q1t w o l q 399 #[.slice A m.length cap,ii d]/\q4q w o l 38 1 A m.length cap (hs.map Hd.v)/\hs.map Hd.l=m/\∀h∈hs,j9 w o h
 | .smp b th fr=>∃q,∃h:Hd UInt8,v=.iface 400 (pp q)/\q1t w o l q 402 #[h.v,.bool th,.bool fr]/\h.l=b/\j9 w o h
theorem qv.go{L:Lb->Prop}{o o':Gh}{l:Lb}{v:Value}{x:Bx}(h:qv w o l v x)(m:Mv L o w o' w')(hl:¬L l)(hd:¬L .data):qv w' o' l v x:=by cases x with|que b d=>{obtain⟨q,A,cap,hs,h1,h2,h3,h4,h5⟩:=h;exact⟨q,A,cap,hs,h1,h2.go m hl,h3.go m hl,h4,λy hy=>(h5 y hy).go m hd⟩}|smp b t f=>{obtain⟨q,y,h1,h2,h3,h4⟩:=h;exact⟨q,y,h1,h2.go m hl,h3,h4.go m hd⟩}
def Bx.ok:Bx->Prop
 | .que m d=>d<=1000/\m.length<=1000/\∀b∈m,b.length<=1000
 | .smp b _ _=>b.length<=1000
structure PoR(w:World)(o:Gh)(pt i:Nat)(p:Nat)(v:Value)(x:Ps):Prop where
 k:q1t w o (.prt pt i) p 323 #[.bool x.c.q,.bool x.c.inn,ii x.c.size,ii x.c.depth,v,ii x.lost]
 b:qv w o (.bx pt i) v x.box
 ok:x.box.ok
 d:x.c.depth<=1000
theorem PoR.go{L:Lb->Prop}{o o':Gh}{i p:Nat}{v:Value}{x:Ps}(h:PoR w o pt i p v x)(m:Mv L o w o' w')(hl:¬L (.prt pt i))(hb:¬L (.bx pt i))(hd:¬L .data):PoR w' o' pt i p v x:=⟨h.k.go m hl,h.b.go m hb hd,h.ok,h.d⟩
def q9(pt k:Nat):Lb->Prop:=λy=>y=.prt pt k\/y=.bx pt k
structure PsR(w:World)(o:Gh)(pt:Nat)(p:Nat)(A:Option Addr)(cap:Nat)(qs:List Nat)(l:List Ps):Prop where
 k:q1t w o (.prs pt) p 318 #[.slice A l.length cap]
 a:q4q w o (.prs pt) 319 1 A l.length cap (qeq qs)
 n:qs.length=l.length
 q:∀i,i<l.length->∃v,PoR w o pt i (zg qs i) v (z6 zn l i)
theorem PsR.go'{L:Lb->Prop}{o o':Gh}{p:Nat}{qs:List Nat}{l:List Ps}(h:PsR w o pt p A cap qs l)(m:Mv L o w o' w')(h1:¬L (.prs pt))(h2:∀i,i<l.length->¬L (.prt pt i)/\¬L (.bx pt i))(hd:¬L .data):PsR w' o' pt p A cap qs l :=
 ⟨h.k.go m h1,h.a.go m h1,h.n,λi hi=>by obtain⟨v,hv⟩:=h.q i hi;exact⟨v,hv.go m (h2 i hi).1 (h2 i hi).2 hd⟩⟩
theorem PsR.go{L:Lb->Prop}{o o':Gh}{p:Nat}{qs:List Nat}{l:List Ps}(h:PsR w o pt p A cap qs l)(m:Mv L o w o' w')(h1:¬L (.prs pt))(h2:∀i,¬L (.prt pt i))(h3:∀i,¬L (.bx pt i))(hd:¬L .data):PsR w' o' pt p A cap qs l:=h.go' m h1 (λi _=>⟨h2 i,h3 i⟩) hd
theorem PsR.set{o o':Gh}{p:Nat}{qs:List Nat}{l:List Ps}{k:Nat}{x:Ps}{v:Value}(h:PsR w o pt p A cap qs l)(hk:k<l.length)(m:Mv (q9 pt k) o w o' w')(hx:PoR w' o' pt k (zg qs k) v x):PsR w' o' pt p A cap qs (l.set k x):=by have hL:(l.set k x).length=l.length:=Zd;refine⟨by rw[hL];exact h.k.go m (by simp[q9]),by rw[hL];exact h.a.go m (by simp[q9]),by rw[hL];exact h.n,λi hi=>?_⟩;rw[hL]at hi;rw[Me.atD_set _ _ _ _ _ hk];by_cases q:i=k;{subst q;rw[Z1 rfl];exact⟨v,hx⟩};{rw[Z0 q];obtain⟨u,hu⟩:=h.q i hi;exact⟨u,hu.go m (by simpa[q9] using q) (by simpa[q9] using q) (by simp[q9])⟩}
def zK(pt:Nat):Lb->Prop:=λy=>∃k,q9 pt k y
section
variable{w:World}{o:Gh}{pt p cap:Nat}{A:Option Addr}{qs:List Nat}{l:List Ps}(H:PsR w o pt p A cap qs l)
include H
theorem PsR.at_{i:Nat}(hi:i<l.length):∃a,A=some ⟨a,0,none⟩/\a<w.heap.size/\w.cell? ⟨a,i,none⟩=some (pp (zg qs i)):=by obtain⟨a,ha⟩:=H.a.1.head zo;obtain⟨b',f,e,hb,hc⟩:=H.a.1.sl.at_ zo;rw[ha]at e;cases e;refine⟨a,ha,hb,?_⟩;have:=hc i (pp (zg qs i)) (by have hq:i<qs.length:=by{have:=H.n;omega};simp[qeq,zg,Zo hq]);simpa using this
end
theorem q32(w:World)(g:Nat):∀(i:Nat) (vs:List Value),w.setCells g i vs=setRow w g i vs
 |_,[]=>rfl
 |i,v::vs=>by rw[World.setCells,setRow];exact q32 _ g _ vs
theorem qu1:Tryz.prog.underlying 357=some (.slice (Tryz.prog.elem 357)):=zk
theorem qk7(w:World):(zeroValue (Tryz.prog.elem 357)).run Tryz.prog w=.ok nS w:=zk
theorem zj.cur{e:TypeId}{sz:Nat}{g:Nat}{xs:List Value}(h:zj w e sz (some ⟨g,0,none⟩) n c xs):∃cur,Blk w g e cur/\n<=c/\c<=maxLen/\cur.size=c*sz/\cur.toList.take (n*sz)=xs:=by rcases h.2 with⟨h,_⟩|⟨g',cap,cur,e1,_,h3,h4,h5,h6,h7⟩;{cases h};{cases e1;exact⟨cur,h3,h4,h5,h6,h7⟩}
theorem zj.mk'{e:TypeId}{sz:Nat}{g:Nat}{xs:List Value}{cur:Array Value}(h1:Blk w g e cur)(h2:n<=c)(h3:c<=maxLen)(h4:cur.size=c*sz)(h5:cur.toList.take (n*sz)=xs):zj w e sz (some ⟨g,0,none⟩) n c xs :=
 ⟨by rw[<- h5,Zq];simp only[Array.length_toList,h4];exact QF (ZZ _ h2),.inr ⟨g,c,cur,rfl,Za _,h1,h2,h3,h4,h5⟩⟩
theorem qbv{g:Nat}{v:Value}{xs:List Value}(h:zj w 38 1 (some ⟨g,0,none⟩) n c (v::xs))(hl:xs.length=m)(h1:∀u∈xs,u.oneCell'=true)(hm:m<=1000000) :
  cP 392 #[.slice (some ⟨g,0,none⟩) n c,ii 0,ii 1] w λe w'=>e=.returned (.slice (some ⟨g,0,none⟩) m c)/\zj w' 38 1 (some ⟨g,0,none⟩) m c xs/\Fr (λk=>k=g) w w':=by
 have hn:n=m+1:=by{have:=h.1;rw[Zj,hl,Qo]at this;exact this.symm};obtain⟨h0,hb,hc1,h8,hc3,h7⟩:=h.cur;obtain⟨i0,h9,hz0,ha,hz2⟩:=Xv (show(Tryz.prog.info? 38).map (λi=>(i.zero,i.size,i.bytes))=some (some nS,1,24) by kernel_rfl);have h6:∀j u,xs[j]?=some u->w.cell? ⟨g,j+1,none⟩=some u:=λj u hu=>by{have hj:=(ZL.1 hu).1;have:(h0.toList.take (n*1))[j+1]?=some u:=by{rw[h7];simpa using hu};rw[QX,Z1 zo]at this;rw[hb.cell,<- X4];exact this};have hlu:h0.size=c:=zo;obtain⟨A,hA,h4⟩:∃A:Addr,(if c=1 then(some ⟨g,0,none⟩:Option Addr) else some ⟨g,1,none⟩)=some A/\Hid (∀t u,xs[t]?=some u->w.drew.cell? (A.add t)=some u):=by{by_cases q:c=1;{rw[Z1 q];exact⟨_,rfl,λt u hu=>by rw[QT.1 (by omega:xs.length=0)]at hu;cases hu⟩};{rw[Z0 q];refine⟨⟨g,1,none⟩,rfl,λt u hu=>?_⟩;rw[q11,QV];exact h6 t u hu}};have s1:Hid (xs.length=m*1):=by{rw[Qo];exact hl};have s2:Hid (∀u∈xs,u.oneCell'=true):=h1;have s3:Hid (∀j,j<xs.length->(w.drew.cell? ⟨g,0+0*1+j,none⟩).isSome=true/\w.drew.frozen? ⟨g,0+0*1+j,none⟩=false):=by{intro j hj;rw[XD,Qa,Zp];exact⟨by show(w.cell? _).isSome=true;rw[hb.cell j,ZD zo];rfl,hb.frozen j⟩};obtain⟨W1,h2⟩:=aU (w.drew.setCells g (0+0*1) xs);have h3:Blk W1 g 38 (xs++h0.toList.drop m).toArray:=by{have:=hb.drew.rowFrom xs 0 w.drew h0 zo;rw[h2,q32];simpa[hl] using this};have h5:Fr (λk=>k=g) w W1:=by rw[h2,q32];exact Fr.row _ _ ((Fr.refl _ w).drew) λ_=>rfl
 have hcl:∀ty,(Builtin.clear_ #[357] ty #[.slice (some ⟨g,m,none⟩) 1 (c-m)]).run Tryz.prog W1=.ok (.tuple #[]) (W1.setCells g m (List.replicate 1 nS)):=λty=>
  Lib.run_clear_slice W1 _ _ ty _ qu1 (λw=>qk7 w) rfl rfl g m 1 _ zd (λj hj=>by rw[h3.cell,List.getElem?_toArray,Xc zo,XK,X4,ZD zo];rfl) (λj hj=>h3.frozen _)
 have hW:Hid (W1=w.drew.setCells g (0+0*1) xs):=h2;have X:=zhd (And.intro h3 h5);have hle:(1:Int)<=(m:Int)+1:=zo;clear h2 h3 h5 h6 hb h7 h;refine zi ?_;go_wp2_with fail;go_region_law (refine step_append_room rfl (.tmp 22) (.tmp 25) 357 rfl 38 i0 1 qu1 h9 ha g 0 0 c (by simp[Act.eval,Act.put]) A m (c-1) xs (by simp[Act.eval,Act.put]) s1.out h4.out s2.out zo s3.out ?_;rw[<- hW.out]);go_wp2;go_returns;obtain⟨kb,fW⟩:=X.out;have hc:=kb.rowFrom [nS] m W1 _ aO;refine⟨rfl,zj.mk' (by rw[q32];exact hc) zo h8 aO ?_,by rw[q32];exact Fr.row _ _ fW λ_=>rfl⟩;rw[Qo];simp only[ZU];rw[Xz aO,List.take_take,Nat.min_self,Xz zo,Zs zo]
theorem qno(hs:List (Hd UInt8)):∀u∈hs.map Hd.v,u.oneCell'=true:=by intro u hu;obtain⟨x,_,rfl⟩:=Zz.1 hu;rfl
theorem qnp{o:Gh}{lb:Lb}{hs:List (Hd UInt8)}{m:List (List UInt8)}{d:Int}(kq:q1t w o lb q 399 #[.slice A m.length c,ii d])(ka:q4q w o lb 38 1 A m.length c (hs.map Hd.v))(hm:hs.map Hd.l=m)(hd:∀h∈hs,j9 w o h)(hn:m.length<=1000)(hld:lb ≠ .data) :
  cP 395 #[pp q] w λe w'=>(∃(hA:Option Addr) (hc:Nat),e=.returned (.tuple #[.slice hA (q3a (.que m d)).1.length hc,.bool (q3a (.que m d)).2.1])/\j9 w' o ⟨hA,hc,(q3a (.que m d)).1⟩)/\Mv (λy=>y=lb) o w o w'/\qv w' o lb (.iface 397 (pp q)) (q3a (.que m d)).2.2:=by have kc:=kq.1.cell;cases m with|nil=>{have hH:qv w o lb (.iface 397 (pp q)) (.que [] d):=⟨q,A,c,hs,rfl,kq,ka,hm,hd⟩;refine zi ?_;go_wp2;go_returns;exact⟨⟨none,0,rfl,j9.nil⟩,Mv.refl _ _ _,hH⟩}|cons b r=>{cases hs with|nil=>{cases hm}|cons h t=>{obtain⟨rfl,rfl⟩:=List.cons.inj hm;obtain⟨g,rfl⟩:=ka.1.head zp;obtain⟨b',o',e',hb',h3⟩:=ka.1.sl.at_ zp;cases e';have c0:w.cell? ⟨g,0,none⟩=some h.v:=by{simpa using h3 0 h.v rfl};have h2:g≠q:=λe=>ka.1.ne kq.1 zd (by rw[e];rfl);have hD:=qbv (v:=h.v) (xs:=t.map Hd.v) (m:=(t.map Hd.l).length) ka.1 zp (qno t) (by simp at hn⊢;omega);have h5:=hd h (XJ ..);obtain⟨hA,h4,hl⟩:=h;simp only[Hd.v]at c0;simp only[Zj,Zh]at *;refine zi ?_;go_wp2_with(go_fit hD;rintro _ w1⟨rfl,h1,f1⟩;have h0:=kq.1.fr f1 (λe=>h2 e.symm);have kf1:=h0.frozen;have kc1:=h0.cell);go_returns;have h6:∀k,q02 (some ⟨g,0,none⟩) k->k=g:=λk h=>by{cases h;rfl};have m1:Mv (λy=>y=lb) o w o w1:=Mv.of f1 λk hk=>by{rw[hk];exact ka.2 g rfl};have m2:Mv (λy=>y=lb) o w o (w1.setCell ⟨q,0,none⟩ (.slice (some ⟨g,0,none⟩) t.length c)):=⟨m1.f.setCell (p:=⟨q,0,none⟩) (λ_=>kq.2) _,m1.a⟩;refine⟨⟨hA,h4,rfl,h5.go m2 (λe=>hld e.symm)⟩,m2,q,some ⟨g,0,none⟩,c,t,rfl,⟨?_,kq.2⟩,⟨?_,ka.2⟩,rfl,λy hy=>(hd y (Q5 _ hy)).go m2 (λe=>hld e.symm)⟩;{have:=h0.set_ 0 (.slice (some ⟨g,0,none⟩) t.length c);simpa using this};{have:=h1.fr ((Fr.refl (λk=>k=q) w1).setCell (p:=⟨q,0,none⟩) (λ_=>rfl) (.slice (some ⟨g,0,none⟩) t.length c)) (λk hk=>by rw[h6 k hk];exact h2);simpa using this}}}
theorem qif{w9:World}{o:Gh}{lb:Lb}{g:Nat}{hs:List (Hd UInt8)}{e:TypeId}{h:Hd UInt8}(ka:q4q w o lb e 1 A n c (hs.map Hd.v))(hd:∀h∈hs,j9 w o h)(hld:lb ≠ .data)
 (own9:zj w9 e 1 (some ⟨g,0,none⟩) (n+1) cap (hs.map Hd.v ++ [h.v]))(hv:SlB w9 h.A h.l.length h.c h.l)(hvg:∀b f,0<h.l.length->h.A=some ⟨b,f,none⟩->w.heap.size<=b/\b≠g)(f9:Fr (q02 A) w w9)(hg:q02 A g\/w.heap.size<=g) :
  ∃o',Mv (λy=>y=lb) o w o' w9/\q4q w9 o' lb e 1 (some ⟨g,0,none⟩) (n+1) cap ((hs ++ [h]).map Hd.v)/\∀x∈hs ++ [h],j9 w9 o' x:=by
 have m:Mv (λy=>y=lb) o w (λk=>if k=g then lb else lay w o .data k) w9:=⟨f9.mono λk _ hk=>ka.2 k hk,λk hk=>by
  by_cases q:k=g
  .subst q;rw[Z1 rfl];exact(ka.2 k (hg.resolve_right zo)).symm
  .rw[Z0 q,q0l hk]⟩
 refine⟨_,m,⟨by rw[Zk];exact own9,λk hk=>?_⟩,λx hx=>?_⟩;{unfold q02 at hk;injection hk with hk;injection hk with hk;exact Z1 hk.symm};{rcases ZE.1 hx with hx|hx;{exact(hd x hx).go m (λe=>hld e.symm)};{obtain rfl:=Zc.1 hx;refine⟨hv,λb f hl e=>?_⟩;obtain⟨h1,h2⟩:=hvg b f hl e;show(if b=g then lb else lay w o .data b)=.data;rw[Z0 h2,q07 h1]}}
theorem qrm{o:Gh}{lb:Lb}{hs:List (Hd UInt8)}{m:List (List UInt8)}{d:Int}(kq:q1t w o lb q 399 #[.slice A m.length c,ii d])(ka:q4q w o lb 38 1 A m.length c (hs.map Hd.v))(hm:hs.map Hd.l=m)(hd:∀h∈hs,j9 w o h)(hn:m.length<=1000)(hld:lb ≠ .data)
 {bA:Option Addr}{bn bc:Nat}{b:List UInt8}(hb:SlB w bA bn bc b)(hbn:b.length<=1000) :
  cP 427 #[pp q,.slice bA bn bc] w λe w'=>e=.returned (.bool (q39 (.que m d) b).2)/\∃o',Mv (λy=>y=lb) o w o' w'/\qv w' o' lb (.iface 397 (pp q)) (q39 (.que m d) b).1:=by
 obtain⟨kc,lt⟩:=kq.1.cl;by_cases a1:d<=m.length;{have hH:qv w o lb (.iface 397 (pp q)) (.que m d):=⟨q,A,c,hs,rfl,kq,ka,hm,hd⟩;have HE:=zhd (show q39 (.que m d) b=((.que m d,false):Bx×Bool) from Z1 a1);have b1:decide (d<=(m.length:Int))=true:=Z5 a1;refine zi ?_;go_wp2_with fail;go_quiet (fail);go_wp2;go_returns;have hq:=q0a w.heap.size w nq;exact⟨q5k (by rw[HE.out]),o,Mv.below hq,by rw[HE.out];exact hH.go (L:=λ_=>False) (Mv.below hq) id id⟩}
 .have HE:=zhd (show q39 (.que m d) b=((.que (m ++ [b]) d,true):Bx×Bool) from Z0 a1);have b1:decide (d<=(m.length:Int))=false:=Z3 a1;refine zi ?_;go_wp2_with fail;go_quiet (fail);have hq:=q0a w.heap.size w nq;replace kq:=kq.go (L:=λ_=>False) (Mv.below hq) id;replace ka:=ka.go (L:=λ_=>False) (Mv.below hq) id;replace hd:=λh hh=>(hd h hh).go (L:=λ_=>False) (Mv.below hq) id;replace hb:=hb.keep hq;have mq:Mv (λy=>y=lb) o w o (w.drewN nq):=Mv.below hq;generalize w.drewN nq=w2 at*;clear kc lt hq a1;obtain⟨kc,lt⟩:=kq.1.cl;have hc:¬q02 A q:=ka.1.ne kq.1 zd;go_wp2_with fail;refine q88 (q02 A) [(6,0),(0,0),(0,0),(2,2)] ?_;simp only[q03,tkO,dpO];refine aG ?_
  refine qwW (λU V=>?_);go_wp2_with fail;have h5:=(Zu w2.heap.size w2).drew;refine(q7g (hb.keep h5) (by have:=hb.2;omega)).mono ?_;rintro _ w3⟨v,rfl,hv,h0⟩;replace h0:bW w2 w3:=h5.trans h0;obtain⟨vA,vc,rfl,h1,h4⟩:=SlB.of_own hv;refine zGW (fO h0 _) ?_;clear V U;intro U V;go_wp2_with fail;have h3:bW w2 (w3.alloc (.cells #[.slice vA bn vc] 38)):=h0.alloc h0.size _;have kx:=Blk.new w3 38 #[.slice vA bn vc];replace h1:=h1.keep (zA w3 (.cells #[.slice vA bn vc] 38));refine zG (fO h3 _) ?_;clear V U;have hg:=ka.1.keep h3;refine qwW (λU V=>?_);refine q8a qmx _ _ _ zr zr hg w3.heap.size #[.slice vA bn vc] rfl aE kx zr zo ?_;intro g cap w9 hown9 hf9 hat9;have f9:=(fO h3 (q02 A)).trans hf9;have hf:∀b0 o0,vA=some ⟨b0,o0,none⟩->w2.heap.size<=b0:=h4;have he:SlB w9 vA bn vc b:=h1.fr hf9 (λb0 o0 _ e hk=>by have:=ka.1.lt hk;have:=hf b0 o0 e;omega);have h2:=kq.1.fr f9 hc;have kq9c:=h2.cell;have kq9f:=h2.frozen;have kq9l:=h2.lt;refine V _ _ rfl (q01 f9) ?_;clear V U;refine zN ?_;refine qwB (λU V=>?_);go_wp2_with fail;refine zE ?_;clear V U;go_wp2;go_returns;have h8:=h1.2;subst h8;obtain⟨o',m',h6,h9⟩:=qif (h:=⟨vA,vc,b⟩) ka hd hld hown9 he (λb0 f0 hl e=>⟨h4 b0 f0 e,λq=>by
   have l0:=h1.lt_ hl e;rcases hat9 with hk|hk
   .have:=ka.1.lt hk;have:=h4 b0 f0 e;simp only[World.size_drew]at *;omega
   .omega⟩) f9 (hat9.imp id (λe=>by have:=h3.size;omega))
  have h7:q1t w9 o' lb q 399 #[.slice A m.length c,ii d]:=⟨h2,(m'.a q kq.1.lt).trans kq.2⟩;have m9:Mv (λy=>y=lb) o' w9 o' (w9.setCell ⟨q,0,none⟩ (.slice (some ⟨g,0,none⟩) (m.length+1) cap)):=(Mv.refl _ o' w9).setC (λ_=>h7.2) 0 _;have ha:∀k,q02 (some ⟨g,0,none⟩) k->k≠q:=λk hk e=>hown9.ne h2 zd (by rw[<- e];exact hk);have hl:(m ++ [b]).length=m.length+1:=zp;refine⟨q5k (by rw[HE.out]),o',mq.trans (m'.trans m9),by rw[HE.out];exact⟨q,_,cap,_,rfl,by rw[hl];exact h7.set 0 _,by rw[hl];exact⟨h6.1.fr ((Fr.refl (λk=>k=q) w9).setCell (p:=⟨q,0,none⟩) (λ_=>rfl) _) ha,h6.2⟩,by simp[hm],λx hx=>(h9 x hx).go m9 (λe=>hld e.symm)⟩⟩
end Go.Proofs.YtncfcbohiodnnaaGreat
