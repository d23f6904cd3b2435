/- Parts of this seat's claims. -/
import Derived.Test.YtncfcbohiodnnaaGreatW20
set_option maxRecDepth 100000
set_option maxHeartbeats 6400000
namespace Go.Proofs.YtncfcbohiodnnaaGreat
open Go.RowKit
variable{w w' W wa wo W':World} {c n pt r B j b m mb q base cap id B0:Nat} {A:Option Addr} {a code what:Int} {cs:Array Value}
structure SoF{α : Type} (d : α) (cell : α->Array Value) (w:World) (o:Gh) (pt i0:Nat) (t tp:TypeId) (q:List α) (x:Rx):Prop where
 row:qbj w o (.obs pt) tp x q.length
 el:∀ i,i < q.length->q1t w o (.obj pt i0 i) (atN x.qs i) t (cell (atD d q i))
theorem SoR.fin{α : Type} {d : α} {cell : α->Array Value} {o o':Gh} {i0:Nat} {t tp:TypeId} {q:List α} {qs:List Nat} (R:SoR d cell wo w o pt i0 t tp q q.length A c qs o'):SoF d cell w o' pt i0 t tp q ⟨A,c,qs⟩:=⟨R.row,R.el⟩
theorem SoF.step{α : Type} {d : α} {cell : α->Array Value} {o o':Gh} {i0:Nat} {t tp tb:TypeId} {q:List α} {x:Rx} {p:Nat} (R:SoF d cell w o pt i0 t tp q x) (f:Fr (λj=>j=p) w w') (a:∀ j,j < w.heap.size->o' j=o j) (kp:Blk w p tb cs) (h1:tp≠tb) (h2:t≠tb):SoF d cell w' o' pt i0 t tp q x :=
 ⟨⟨⟨R.row.1.1.fr f (λj hj e=>R.row.1.1.ne kp h1 (by rw[<- e];exact hj)),λj hj=>(a j (R.row.1.1.lt hj)).trans (R.row.1.2 j hj)⟩,R.row.2⟩,λi hi=>⟨(R.el i hi).1.fr f (λe=>(R.el i hi).1.ne kp h2 e),(a _ (R.el i hi).1.lt).trans (R.el i hi).2⟩⟩
theorem q6w{α β : Type} (d : α) (d' : β) (f : α->β) (l:List α) {i:Nat} (h:i < l.length):atD d' (l.map f) i=f (atD d l i):=by
 rw[q0s (by simpa using h),q0s h,List.getElem_map]
theorem qnz:(Tryz.prog.info? 4).map (λi=>(i.zero,i.size,i.bytes))=some (some (.bool false),1,1):=zk
theorem qvu:Tryz.prog.underlying 43=some (.slice 4):=zk
theorem q9e{α β : Type} (f : α->β):∀ l:List α,l.flatMap (λx=>[f x])=l.map f
 | []=>rfl
 | a :: r=>by rw[List.flatMap_cons,q9e f r];rfl
theorem z0q{l:List Int} (h:SlI w A n c l):SlG w A n c 1 (λ(x:Int)=>[ii x]) l:=⟨by rw[q9e];exact h.1,h.2.1,λ_ _=>rfl⟩
theorem qvv{g:Nat} (h:Blk w g 4 (madeCells #[.bool false] m)) (hm:m<=8):SlG w (some ⟨g,0,none⟩) m m 1 (λ(x:Bool)=>[Value.bool x]) (List.replicate m false):=by
 rw[Me.made_one]at h
 refine⟨⟨by rw[q9e];simp,nL,by unfold maxLen;omega,(λe=>by cases e),λ_=>⟨g,0,rfl,h.lt,λj u hu=>?_⟩⟩,zp,λ_ _=>rfl⟩;rw[q9e,List.map_replicate]at hu
 rw[Nat.zero_add,h.cell j,<- Array.getElem?_toList,Array.toList_replicate];exact hu
theorem qbw{o:Gh} {p:Nat} {cf:Pt} {a1 a2 a3 a4:Option Addr} {n1 n2 n3 n4 c1 c2 c3 c4:Nat} (hcf:qcu.ok W cf) (hW:bW W w) (hp:W.heap.size<=p) (hdp:∀ c ∈ cf.pools.l,c.depth<=1000)
  (K:q1t w o (.obs pt) p 337 #[cf.regs.v,cf.procs.v,cf.ports.v,cf.sems.v,ii cf.flags,cf.pools.v,cf.slates.v,ii cf.cap,ii cf.bud,ii cf.lad,cf.acts.v,.slice a1 n1 c1,.slice a2 n2 c2,.slice a3 n3 c3,.slice a4 n4 c4]) :
  cP 178 #[pp p] w λe w'=>e = .returned (.tuple #[])/\∃ o' x',Mv (λy=>y = .obs pt) o w o' w'/\ObR w' o' pt p cf x' (q4r cf):=by
 have kc:∀ i,w.cell? ⟨p,i,none⟩ = #[cf.regs.hq,cf.procs.hq,cf.ports.hq,cf.sems.hq,ii cf.flags,cf.pools.hq,cf.slates.hq,ii cf.cap,ii cf.bud,ii cf.lad,cf.acts.hq,.slice a1 n1 c1,.slice a2 n2 c2,.slice a3 n3 c3,.slice a4 n4 c4][i]?:=K.1.cell;have kf:=K.1.frozen;have lt:=K.1.lt;obtain⟨m,hm⟩:∃ m:Nat,m=(max 0 (min cf.flags 8)).toNat:=⟨_,rfl⟩
 have hm8:m<=8:=zo;have hmk:=run_make_row' (P:=Tryz.prog) 43 4 (.bool false) 1 qvu qnz rfl .i64 .i64 m zo zo;have hmx:max 0 (min cf.flags 8)=(m:Int):=zo;have HM:=zhd hm;clear hm;refine inC ?_;go_in;go_wp2_with fail;have kq:=Blk.new w 51 (Pt.lw cf);have b1:bW w (w.alloc (.cells (Pt.lw cf) 51)):=zv;replace K:=K.go (L:=λ_=>False) (Mv.below b1) id;have M1:Mv (λy=>y = .obs pt) o w o (w.alloc (.cells (Pt.lw cf) 51)):=Mv.below b1;have h0:bW W (w.alloc (.cells (Pt.lw cf) 51)):=hW.alloc hW.size _;generalize w.alloc (.cells (Pt.lw cf) 51)=w1 at *;obtain⟨q,hq⟩:∃ q,q=w.heap.size:=⟨_,rfl⟩
 have HQ:Hid (p≠q/\W.heap.size<=q):=by have:=hW.size;show _/\_;omega
 rw[<- hq]at kq
 rw[<- hq];clear hq kc kf lt b1;have hc:=HQ.out.1;have h1:¬ q=p:=λe=>hc e.symm;refine(qyt (o:=o) (pt:=pt) (qb7.keep hcf.2.2.2.1 h0).1).mono ?_;rintro _ v1 ⟨B1,h2,q1,o1,rfl,R1⟩;have hb:=R1.M.f.below (λ_ _=>id) nL;have K':=K.go R1.M id;replace kq:=kq.keep hb;replace M1:=M1.trans (R1.M.mono λ_ h=>h.elim);replace h0:=h0.trans (hb.mono h0.size);replace K:=K';clear K' hb;replace R1:=R1.fin;generalize hz:(cf.sems.l.take 4).length=z1 at *;have h7:=zhd hz;clear hz;have kf:=K.1.frozen;obtain⟨kc,lp⟩:=K.1.cl;obtain⟨qc,lq⟩:=kq.cl;go_wp2_with fail;have fS:Fr (λj=>j=p) v1 (v1.setCell ⟨p,11,none⟩ (.slice B1 z1 h2)):=(Fr.refl (λj=>j=p) v1).setCell (p:=⟨p,11,none⟩) (λ_=>rfl) _;replace M1:=M1.trans (Mv.of (L:=λy=>y = .obs pt) (o:=o1) fS (λj hj=>by rw[hj];exact K.2));replace R1:=R1.step (p:=p) fS (λ_ _=>rfl) K.1 zd zd;replace K:=K.set 11 (.slice B1 z1 h2);replace kq:=kq.fr fS h1;replace h0:=h0.setCell (p:=⟨p,11,none⟩) hp (.slice B1 z1 h2);clear kf kc lp qc lq fS;have HS:=zhd (show(v1.setCell ⟨p,11,none⟩ (.slice B1 z1 h2)).heap.size=v1.heap.size by simp);generalize v1.setCell ⟨p,11,none⟩ (.slice B1 z1 h2)=w2 at *;have kx:=Blk.new w2 4 (madeCells #[.bool false] m);have bx:bW w2 (w2.alloc (.cells (madeCells #[.bool false] m) 4)):=zv;have ha:SlG (w2.alloc (.cells (madeCells #[.bool false] m) 4)) (some ⟨v1.heap.size,0,none⟩) m m 1 (λ(x:Bool)=>[Value.bool x]) (List.replicate m false):=qvv (HS.out ▸ kx) zo;replace R1:=R1.step (p:=p) (fO bx _) (λ_ _=>rfl) K.1 zd zd;replace K:=K.go (L:=λ_=>False) (Mv.below bx) id;replace kq:=kq.keep bx;replace M1:=M1.trans (Mv.below (L:=λy=>y = .obs pt) (o:=o1) bx);replace h0:=h0.trans (bx.mono h0.size);generalize w2.alloc (.cells (madeCells #[.bool false] m) 4)=wX at *;clear kx bx;refine(qyv (o:=o1) (pt:=pt) ha).mono ?_;rintro _ v2 ⟨B2,h3,q2,o2,rfl,R2⟩;have hb:=R2.M.f.below (λ_ _=>id) nL;have K':=K.go R2.M id;replace kq:=kq.keep hb;replace M1:=M1.trans (R2.M.mono λ_ h=>h.elim);replace h0:=h0.trans (hb.mono h0.size);replace R1:=R1.step (p:=p) (fO hb _) R2.M.a K.1 zd zd;replace K:=K';clear K' hb;replace R2:=R2.fin;generalize hz:((List.replicate m false).take 8).length=z2 at *;have h6:=zhd hz;clear hz;have kf:=K.1.frozen;obtain⟨kc,lp⟩:=K.1.cl;obtain⟨qc,lq⟩:=kq.cl;go_wp2_with fail;have fS:Fr (λj=>j=p) v2 (v2.setCell ⟨p,12,none⟩ (.slice B2 z2 h3)):=(Fr.refl (λj=>j=p) v2).setCell (p:=⟨p,12,none⟩) (λ_=>rfl) _;replace M1:=M1.trans (Mv.of (L:=λy=>y = .obs pt) (o:=o2) fS (λj hj=>by rw[hj];exact K.2));replace R1:=R1.step (p:=p) fS (λ_ _=>rfl) K.1 zd zd;replace R2:=R2.step (p:=p) fS (λ_ _=>rfl) K.1 zd zd;replace K:=K.set 12 (.slice B2 z2 h3);replace kq:=kq.fr fS h1;replace h0:=h0.setCell (p:=⟨p,12,none⟩) hp (.slice B2 z2 h3);clear kf kc lp qc lq fS;generalize v2.setCell ⟨p,12,none⟩ (.slice B2 z2 h3)=w3 at *;refine(qyx (o:=o2) (pt:=pt) (qb8.keep hcf.2.2.2.2.2.1 h0).1).mono ?_;rintro _ v3 ⟨B3,h4,q3,o3,rfl,R3⟩;have hb:=R3.M.f.below (λ_ _=>id) nL;have K':=K.go R3.M id;replace kq:=kq.keep hb;replace M1:=M1.trans (R3.M.mono λ_ h=>h.elim);replace h0:=h0.trans (hb.mono h0.size);replace R1:=R1.step (p:=p) (fO hb _) R3.M.a K.1 zd zd;replace R2:=R2.step (p:=p) (fO hb _) R3.M.a K.1 zd zd;replace K:=K';clear K' hb;replace R3:=R3.fin;generalize hz:(cf.pools.l.take 4).length=z3 at *;have h8:=zhd hz;clear hz;have kf:=K.1.frozen;obtain⟨kc,lp⟩:=K.1.cl;obtain⟨qc,lq⟩:=kq.cl;go_wp2_with fail;have fS:Fr (λj=>j=p) v3 (v3.setCell ⟨p,13,none⟩ (.slice B3 z3 h4)):=(Fr.refl (λj=>j=p) v3).setCell (p:=⟨p,13,none⟩) (λ_=>rfl) _;replace M1:=M1.trans (Mv.of (L:=λy=>y = .obs pt) (o:=o3) fS (λj hj=>by rw[hj];exact K.2));replace R1:=R1.step (p:=p) fS (λ_ _=>rfl) K.1 zd zd;replace R2:=R2.step (p:=p) fS (λ_ _=>rfl) K.1 zd zd;replace R3:=R3.step (p:=p) fS (λ_ _=>rfl) K.1 zd zd;replace K:=K.set 13 (.slice B3 z3 h4);replace kq:=kq.fr fS h1;replace h0:=h0.setCell (p:=⟨p,13,none⟩) hp (.slice B3 z3 h4);clear kf kc lp qc lq fS;generalize v3.setCell ⟨p,13,none⟩ (.slice B3 z3 h4)=w4 at *;refine(qyz (o:=o3) (pt:=pt) (z0q (q1f.keep hcf.2.2.2.2.2.2.1 h0))).mono ?_;rintro _ v4 ⟨B4,h5,q4,o4,rfl,R4⟩;have hb:=R4.M.f.below (λ_ _=>id) nL;have K':=K.go R4.M id;replace kq:=kq.keep hb;replace M1:=M1.trans (R4.M.mono λ_ h=>h.elim);replace h0:=h0.trans (hb.mono h0.size);replace R1:=R1.step (p:=p) (fO hb _) R4.M.a K.1 zd zd;replace R2:=R2.step (p:=p) (fO hb _) R4.M.a K.1 zd zd;replace R3:=R3.step (p:=p) (fO hb _) R4.M.a K.1 zd zd;replace K:=K';clear K' hb;replace R4:=R4.fin;generalize hz:(cf.slates.l.take 4).length=z4 at *;have h9:=zhd hz;clear hz;have kf:=K.1.frozen;obtain⟨kc,lp⟩:=K.1.cl;obtain⟨qc,lq⟩:=kq.cl;go_wp2_with fail;have fS:Fr (λj=>j=p) v4 (v4.setCell ⟨p,14,none⟩ (.slice B4 z4 h5)):=(Fr.refl (λj=>j=p) v4).setCell (p:=⟨p,14,none⟩) (λ_=>rfl) _;replace M1:=M1.trans (Mv.of (L:=λy=>y = .obs pt) (o:=o4) fS (λj hj=>by rw[hj];exact K.2));replace R1:=R1.step (p:=p) fS (λ_ _=>rfl) K.1 zd zd;replace R2:=R2.step (p:=p) fS (λ_ _=>rfl) K.1 zd zd;replace R3:=R3.step (p:=p) fS (λ_ _=>rfl) K.1 zd zd;replace R4:=R4.step (p:=p) fS (λ_ _=>rfl) K.1 zd zd;replace K:=K.set 14 (.slice B4 z4 h5);replace kq:=kq.fr fS h1;replace h0:=h0.setCell (p:=⟨p,14,none⟩) hp (.slice B4 z4 h5);clear kf kc lp qc lq fS;go_returns;generalize v4.setCell ⟨p,14,none⟩ (.slice B4 z4 h5)=w' at *;have e2:(List.replicate m false).take 8=List.replicate m false:=List.take_of_length_le (by simp;omega);have e3:(q4r cf).flags=List.replicate m false:=by unfold q4r;rw[<- HM.out]
 rw[e2,<- e3]at R2 h6
 have l1:(q4r cf).sems.length=(cf.sems.l.take 4).length:=List.length_map _;have l3:(q4r cf).pools.length=(cf.pools.l.take 4).length:=List.length_map _;have l4:(q4r cf).slates.length=(cf.slates.l.take 4).length:=List.length_map _;refine⟨rfl,o4,⟨⟨B1,h2,q1⟩,⟨B2,h3,q2⟩,⟨B3,h4,q3⟩,⟨B4,h5,q4⟩⟩,M1,?_,by rw[l1];exact R1.row,R2.row,by rw[l3];exact R3.row,by rw[l4];exact R4.row,λi hi=>?_,λi hi=>R2.el i hi,λi hi=>?_,λi hi=>?_⟩
 .rw[l1,l3,l4,h7.out,h6.out,h8.out,h9.out];exact K
 .rw[l1]at hi
  have:=R1.el i hi;rwa [show atD Se0 (q4r cf).sems i=⟨atD Sm0 (cf.sems.l.take 4) i,(atD Sm0 (cf.sems.l.take 4) i).first⟩ from q6w Sm0 Se0 (λc=>(⟨c,c.first⟩:Se)) _ hi]
 .rw[l3]at hi
  have:=R3.el i hi;rw[show atD Pq0 (q4r cf).pools i=⟨atD Pl0 (cf.pools.l.take 4) i,[]⟩ from q6w Pl0 Pq0 (λc=>(⟨c,[]⟩:Pq)) _ hi];exact⟨none,0,[],this,⟨Own.nil _ _ _,(λk hk=>by cases hk)⟩,rfl,(λh hh=>by cases hh),Nat.zero_le _,hdp _ (List.mem_of_mem_take (q0h (d:=Pl0) hi)),(λb hb=>by cases hb)⟩
 .rw[l4]at hi
  have:=R4.el i hi;rw[show atD Sa0 (q4r cf).slates i=⟨atD (0:Int) (cf.slates.l.take 4) i,[],false⟩ from q6w (0:Int) Sa0 (λn=>(⟨n,[],false⟩:Sa)) _ hi];exact⟨⟨none,0,[]⟩,this,rfl,Dat.nil,zp⟩
theorem qrw{o:Gh} {cf:Pt} (hcf:qcu.ok W cf) (hW:bW W w) (hdp:∀ c ∈ cf.pools.l,c.depth<=1000):
  cP 117 #[.agg (Pt.lw cf)] w λe w'=>∃ p o' x',e = .returned (pp p)/\Mv (λy=>y = .obs pt) o w o' w'/\ObR w' o' pt p cf x' (q4r cf):=by
 have b1:bW w ((w.alloc (.cells (Pt.lw cf) 51)).alloc (.cells #[cf.regs.hq,cf.procs.hq,cf.ports.hq,cf.sems.hq,ii cf.flags,cf.pools.hq,cf.slates.hq,ii cf.cap,ii cf.bud,ii cf.lad,cf.acts.hq,.slice none 0 0,.slice none 0 0,.slice none 0 0,.slice none 0 0] 337)):=zv;have kp:=Blk.new (w.alloc (.cells (Pt.lw cf) 51)) 337 #[cf.regs.hq,cf.procs.hq,cf.ports.hq,cf.sems.hq,ii cf.flags,cf.pools.hq,cf.slates.hq,ii cf.cap,ii cf.bud,ii cf.lad,cf.acts.hq,.slice none 0 0,.slice none 0 0,.slice none 0 0,.slice none 0 0];rw[World.size_alloc]at kp
 have hp:W.heap.size<=w.heap.size + 1:=by have:=hW.size;omega
 have M1:Mv (λ_=>False) o w (lay w o (.obs pt)) _:=Mv.lay (S:=λ_=>False) (.obs pt) (fO b1 _) (λ_ _ h=>h.elim);have hC:=qbw (o:=lay w o (.obs pt)) (pt:=pt) hcf (bt hW b1) hp hdp ⟨kp,q07 (Nat.le_succ _)⟩;refine inC ?_;go_in;go_wp2_with (go_at_call 178;refine hC.mono ?_;rintro _ w2 ⟨rfl,o',x',m,R⟩);go_returns;refine⟨_,o',x',rfl,?_,R⟩;exact(M1.mono λ_ h=>h.elim).trans m
def MnR(w:World) (g:Nat) (acts:List Int):Prop:=∃ (c:Nat->Int) (x p:Int),Blk w g 342 (mc (q9b acts) c x p)
theorem MnR.fr{S:Nat->Prop} {g:Nat} {a:List Int} (h:MnR w g a) (hf:Fr S w w') (hg:¬ S g):MnR w' g a:=by
 obtain⟨c,x,p,h⟩:=h;exact⟨c,x,p,h.fr hf hg⟩
theorem MnR.lt{g:Nat} {a:List Int} (h:MnR w g a):g < w.heap.size:=by
 obtain⟨c,x,p,h⟩:=h;exact h.lt
def qxa(w:World) (o:Gh) (h:Hd St):Prop:=SlG w h.A h.l.length h.c 6 St.f h.l/\(∀ x ∈ h.l,x.ok)/\∀ b f,0 < h.l.length->h.A=some ⟨b,f,none⟩->o b = .data
theorem SlG.lt_{α : Type} {sz:Nat} {f : α->List Value} {l:List α} (h:SlG w A n c sz f l) (hn:0 < n) {g o:Nat} (e:A=some ⟨g,o,none⟩):g < w.heap.size:=by
 obtain⟨b,o',e',hb,_⟩:=h.1.at_ hn;rw[e]at e'
 cases e';exact hb
section
variable{L:Lb->Prop} {o o':Gh} {w w':World}
theorem qxa.go{h:Hd St} (H:qxa w o h) (m:Mv L o w o' w') (hl:¬ L .data):qxa w' o' h :=
 ⟨H.1.fr m.f λb f hn e=>by rw[H.2.2 b f hn e];exact hl,H.2.1,λb f hn e=>(m.a b (H.1.lt_ hn e)).trans (H.2.2 b f hn e)⟩
structure TkR(w:World) (o:Gh) (l:Lb) (q:Nat) (hp:Hd St) (hd:Hd UInt8) (x:Tk):Prop where
 k:q1t w o l q 259 #[hp.v,ii x.at_,ii x.rest,ii x.addr,hd.v,.bool x.done]
 p:qxa w o hp
 pl:hp.l=x.prog
 d:Dat w o hd
 dl:hd.l=x.data
 at_:x.at_ < x.prog.length
 n:x.prog.length<=1000
 a:i64 x.addr
 dn:x.data.length<=1000
theorem TkR.go{l:Lb} {hp:Hd St} {hd:Hd UInt8} {x:Tk} (h:TkR w o l q hp hd x) (m:Mv L o w o' w') (hl:¬ L l) (hdt:¬ L .data):TkR w' o' l q hp hd x:=⟨h.k.go m hl,h.p.go m hdt,h.pl,h.d.go m hdt,h.dl,h.at_,h.n,h.a,h.dn⟩
end
structure Cx where
 tr:Rx
 t:Nat
 mb:Nat
 g:Nat
 B:Nat
 mA:Option Addr
 mc:Nat
 PQ:List (Nat×Nat)
 p:Nat
 pA:Option Addr
 pc:Nat
 pq:List Nat
 ob:Nat
 ox:Ox
 m:Nat
 s:Option Nat
 sa:Nat
 sc:Nat
 sq:List Nat
 eA:Option Addr
 ec:Nat
def Cx.cells(x:Cx) (s:Ce):Array Value:=#[s.cf.regs.v,s.cf.procs.v,s.cf.ports.v,s.cf.sems.v,ii s.cf.flags,s.cf.pools.v,s.cf.slates.v,ii s.cf.cap,ii s.cf.bud,ii s.cf.lad,s.cf.acts.v,ii s.part,ii s.mode,ii s.win,.slice x.tr.A s.tk.length x.tr.c,pp x.t,pp x.g,pp x.p,pp x.ob,pp x.m,.pointer (x.s.map λb=>⟨b,0,none⟩),.slice x.eA s.evs.length x.ec]
section
variable{L:Lb->Prop} {o o':Gh} {w w':World}
def TbL(w:World) (o:Gh) (pt t mb:Nat) (l:List Rw) (tn:Int):Prop:=TbR w t mb l tn/\o t = .tab pt/\o mb = .tab pt
theorem TbL.go{t:Nat} {l:List Rw} {tn:Int} (h:TbL w o pt t mb l tn) (m:Mv L o w o' w') (hl:¬ L (.tab pt)):TbL w' o' pt t mb l tn :=
 ⟨h.1.fr m.f (by rw[h.2.1];exact hl) (by rw[h.2.2];exact hl),(m.a t h.1.kt.lt).trans h.2.1,(m.a mb h.1.km.lt).trans h.2.2⟩
theorem TbL.mv{t:Nat} {l:List Rw} {tn:Int} (h:TbL w o pt t mb l tn) (f:Fr (TbS t mb) w w'):Mv (λy=>y = .tab pt) o w o w':=Mv.of f λk hk=>by rcases hk with rfl | rfl;exact h.2.1;exact h.2.2
def MeL(w:World) (o:Gh) (pt g B:Nat) (A:Option Addr) (c:Nat) (PQ:List (Nat×Nat)) (Ss:List Me.Sg) (Bs:List (List UInt8)):Prop:=Me.MemX w g B A c PQ Ss Bs/\o g = .mem pt/\(∀ b f,0 < Ss.length->A=some ⟨b,f,none⟩->o b = .mem pt)/\∀ i,i < Ss.length->o (atD (0,0) PQ i).1 = .mem pt/\o (atD (0,0) PQ i).2 = .mem pt
theorem MemX.fr'{S:Nat->Prop} {g:Nat} {PQ:List (Nat×Nat)} {Ss:List Me.Sg} {Bs:List (List UInt8)} (h:Me.MemX w g B A c PQ Ss Bs) (hf:Fr S w w') (h1:¬ S g) (h2:∀ b f,0 < Ss.length->A=some ⟨b,f,none⟩->¬ S b) (h3:∀ i,i < Ss.length->¬ S (atD (0,0) PQ i).1/\¬ S (atD (0,0) PQ i).2):Me.MemX w' g B A c PQ Ss Bs:=by
 obtain⟨a1,a2,a3,a4,a5,a6,a7,a8,a9⟩:=h;refine⟨a1.fr hf h1,SlG.fr a2 hf (λb f hn e=>h2 b f hn e),a3,a4,Nat.le_trans a5 hf.size,a6,a7,λi hi=>?_,a9⟩;obtain⟨b1,b2,b3⟩:=a8 i hi;exact⟨b1.fr hf (h3 i hi).1,b2.fr hf (h3 i hi).2,b3⟩
theorem MeL.go{g:Nat} {PQ:List (Nat×Nat)} {Ss:List Me.Sg} {Bs:List (List UInt8)} (h:MeL w o pt g B A c PQ Ss Bs) (m:Mv L o w o' w') (hl:¬ L (.mem pt)):MeL w' o' pt g B A c PQ Ss Bs:=by
 obtain⟨h1,h2,h3,h4⟩:=h;refine⟨MemX.fr' h1 m.f (by rw[h2];exact hl) (λb f hn e=>by rw[h3 b f hn e];exact hl) (λi hi=>by rw[(h4 i hi).1,(h4 i hi).2];exact⟨hl,hl⟩),(m.a g h1.1.lt).trans h2,λb f hn e=>(m.a b (h1.2.1.lt_ hn e)).trans (h3 b f hn e),λi hi=>?_⟩;obtain⟨b1,b2,b3⟩:=h1.2.2.2.2.2.2.2.1 i hi;exact⟨(m.a _ b1.lt).trans (h4 i hi).1,(m.a _ b2.lt).trans (h4 i hi).2⟩
theorem MeL.mv{g:Nat} {PQ:List (Nat×Nat)} {Ss:List Me.Sg} {Bs:List (List UInt8)} (h:MeL w o pt g B A c PQ Ss Bs) (f:Fr (Me.QS PQ Ss.length) w w'):Mv (λy=>y = .mem pt) o w o w':=Mv.of f λk hk=>by obtain⟨i,hi,rfl⟩:=hk;exact(h.2.2.2 i hi).2
def SkL(w:World) (o:Gh) (pt b a cap:Nat) (qs:List Nat) (y:Sk):Prop:=SkR w b a cap qs y/\o b = .slk pt/\a < w.heap.size/\o a = .slk pt/\∀ k,k ∈ qs->o k = .slk pt
theorem SkL.go{a:Nat} {qs:List Nat} {y:Sk} (h:SkL w o pt b a cap qs y) (m:Mv L o w o' w') (hl:¬ L (.slk pt)):SkL w' o' pt b a cap qs y:=by
 obtain⟨h1,h2,h3,h4,h5⟩:=h;have hq:=h1.old.2.2;exact⟨h1.fr m.f (by rw[h2];exact hl) (by rw[h4];exact hl) (λk hk=>by rw[h5 k hk];exact hl),(m.a b h1.ks.lt).trans h2,Nat.lt_of_lt_of_le h3 m.f.size,(m.a a h3).trans h4,λk hk=>(m.a k (hq k hk)).trans (h5 k hk)⟩
theorem SkL.mv{a:Nat} {qs:List Nat} {y:Sk} (h:SkL w o pt b a cap qs y) (f:Fr (SkS b qs) w w'):Mv (λy=>y = .slk pt) o w o w':=Mv.of f λk hk=>by rcases hk with rfl | hk;exact h.2.1;exact h.2.2.2.2 k hk
def MnL(w:World) (o:Gh) (pt g:Nat) (acts:List Int):Prop:=MnR w g acts/\o g = .mon pt
theorem MnL.go{g:Nat} {a:List Int} (h:MnL w o pt g a) (m:Mv L o w o' w') (hl:¬ L (.mon pt)):MnL w' o' pt g a:=⟨h.1.fr m.f (by rw[h.2];exact hl),(m.a g h.1.lt).trans h.2⟩
end
def SkO(w:World) (o:Gh) (pt:Nat) (x:Cx) (y:Option Sk):Prop:=(y=none/\x.s=none)\/∃ z b,y=some z/\x.s=some b/\SkL w o pt b x.sa x.sc x.sq z
theorem SkO.go{L:Lb->Prop} {o o':Gh} {x:Cx} {y:Option Sk} (h:SkO w o pt x y) (m:Mv L o w o' w') (hl:¬ L (.slk pt)):SkO w' o' pt x y:=by
 rcases h with h | ⟨z,b,h1,h2,h3⟩
 .exact .inl h
 .exact .inr ⟨z,b,h1,h2,h3.go m hl⟩
structure CeR(w:World) (o:Gh) (pt c:Nat) (x:Cx) (s:Ce):Prop where
 k:q1t w o (.cell pt) c 255 (x.cells s)
 tr:qbj w o (.tks pt) 256 x.tr s.tk.length
 tk:∀ i,i < s.tk.length->∃ hp hd,TkR w o (.task pt i) (atN x.tr.qs i) hp hd (atD Tk0 s.tk i)
 tb:TbL w o pt x.t x.mb s.tab s.tn
 me:MeL w o pt x.g x.B x.mA x.mc x.PQ s.segs s.bs
 ps:PsR w o pt x.p x.pA x.pc x.pq s.pts
 ob:ObR w o pt x.ob s.cf x.ox s.obs
 mn:MnL w o pt x.m s.cf.acts.l
 sk:SkO w o pt x s.slk
 ev:q4q w o (.evs pt) 67 6 x.eA s.evs.length x.ec (s.evs.flatMap Ev.f)
def CeW(w:World) (o:Gh) (pt c p:Nat) (s:Ce):Prop:=∃ x:Cx,x.p=p/\CeR w o pt c x s
def PaL(pt:Nat):Lb->Prop:=λl=>l.part=some pt
section
variable{L:Lb->Prop} {o o':Gh} {w w':World} {pt c:Nat} {x:Cx} {s:Ce} (R:CeR w o pt c x s)
include R
theorem CeR.go(m:Mv L o w o' w') (hl:∀ l,L l->l.part≠some pt) (hd:¬ L .data):CeR w' o' pt c x s:=by
 have h:∀ l:Lb,l.part=some pt->¬ L l:=λl e h=>hl l h e;exact⟨R.k.go m (h _ rfl),R.tr.go m (h _ rfl),λi hi=>by obtain⟨hp,h0,T⟩:=R.tk i hi;exact⟨hp,h0,T.go m (h _ rfl) hd⟩,R.tb.go m (h _ rfl),R.me.go m (h _ rfl),R.ps.go m (h _ rfl) (λ_=>h _ rfl) (λ_=>h _ rfl) hd,R.ob.go m (h _ rfl) (λ_ _=>h _ rfl) hd,R.mn.go m (h _ rfl),SkO.go R.sk m (h _ rfl),R.ev.go m (h _ rfl)⟩
theorem CeR.blw(hb:bW w w'):CeR w' o pt c x s:=R.go (L:=λ_=>False) (Mv.below hb) (λ_ h=>h.elim) id
theorem CeR.setTk{k:Nat} {t:Tk} {hp:Hd St} {hd:Hd UInt8} (hk:k < s.tk.length) (m:Mv (λy=>y = .task pt k) o w o' w') (T:TkR w' o' (.task pt k) (atN x.tr.qs k) hp hd t):CeR w' o' pt c x (q1d s k t):=by
 have hL:(s.tk.set k t).length=s.tk.length:=List.length_set;refine⟨?_,?_,λi hi=>?_,R.tb.go m zp,R.me.go m zp,R.ps.go m zp zp zp zp,R.ob.go m zp zp zp,R.mn.go m zp,SkO.go R.sk m zp,R.ev.go m zp⟩
 .have:=R.k.go m zp;unfold Cx.cells q1d;rw[hL];exact this
 .show qbj _ _ _ _ _ (s.tk.set k t).length;rw[hL];exact R.tr.go m zp
 .have h1:i < s.tk.length:=by rw[<- hL];exact hi
  show ∃ hp hd,TkR w' o' _ _ hp hd (atD Tk0 (s.tk.set k t) i);rw[Me.atD_set _ _ _ _ _ hk];by_cases q:i=k
  .subst q;rw[if_pos rfl];exact⟨hp,hd,T⟩
  .rw[if_neg q];obtain⟨h2,h0,T'⟩:=R.tk i h1;exact⟨h2,h0,T'.go m (by simpa using q) zp⟩
theorem CeR.setTab{l:List Rw} {tn:Int} (m:Mv (λy=>y = .tab pt) o w o' w') (T:TbR w' x.t x.mb l tn):CeR w' o' pt c x { s with tab:=l,tn:=tn } :=
 ⟨R.k.go m zp,R.tr.go m zp,λi hi=>by obtain⟨hp,hd,T⟩:=R.tk i hi;exact⟨hp,hd,T.go m zp zp⟩,⟨T,(m.a _ R.tb.1.kt.lt).trans R.tb.2.1,(m.a _ R.tb.1.km.lt).trans R.tb.2.2⟩,R.me.go m zp,R.ps.go m zp zp zp zp,R.ob.go m zp zp zp,R.mn.go m zp,SkO.go R.sk m zp,R.ev.go m zp⟩
theorem CeR.setMem{bs:List (List UInt8)} (m:Mv (λy=>y = .mem pt) o w o w') (T:Me.MemX w' x.g x.B x.mA x.mc x.PQ s.segs bs):CeR w' o pt c x { s with bs:=bs } :=
 ⟨R.k.go m zp,R.tr.go m zp,λi hi=>by obtain⟨hp,hd,T⟩:=R.tk i hi;exact⟨hp,hd,T.go m zp zp⟩,R.tb.go m zp,⟨T,R.me.2⟩,R.ps.go m zp zp zp zp,R.ob.go m zp zp zp,R.mn.go m zp,SkO.go R.sk m zp,R.ev.go m zp⟩
theorem CeR.setPts{l:List Ps} (m:Mv (PtL pt) o w o' w') (T:PsR w' o' pt x.p x.pA x.pc x.pq l):CeR w' o' pt c x { s with pts:=l } :=
 ⟨R.k.go m (by simp[PtL,PkL]),R.tr.go m (by simp[PtL,PkL]),λi hi=>by obtain⟨hp,hd,T⟩:=R.tk i hi;exact⟨hp,hd,T.go m (by simp[PtL,PkL]) (by simp[PtL,PkL])⟩,R.tb.go m (by simp[PtL,PkL]),R.me.go m (by simp[PtL,PkL]),T,R.ob.go m (by simp[PtL,PkL]) (by simp[PtL,PkL]) (by simp[PtL,PkL]),R.mn.go m (by simp[PtL,PkL]),SkO.go R.sk m (by simp[PtL,PkL]),R.ev.go m (by simp[PtL,PkL])⟩
theorem CeR.setObs{y:Ob} {z:Ox} (m:Mv (ObL pt) o w o' w') (T:ObR w' o' pt x.ob s.cf z y):CeR w' o' pt c { x with ox:=z } { s with obs:=y } :=
 ⟨R.k.go m (by simp[ObL]),R.tr.go m (by simp[ObL]),λi hi=>by obtain⟨hp,hd,T⟩:=R.tk i hi;exact⟨hp,hd,T.go m (by simp[ObL]) (by simp[ObL])⟩,R.tb.go m (by simp[ObL]),R.me.go m (by simp[ObL]),R.ps.go m (by simp[ObL]) (by simp[ObL]) (by simp[ObL]) (by simp[ObL]),T,R.mn.go m (by simp[ObL]),SkO.go R.sk m (by simp[ObL]),R.ev.go m (by simp[ObL])⟩
theorem CeR.setMon(m:Mv (λy=>y = .mon pt) o w o w') (T:MnR w' x.m s.cf.acts.l):CeR w' o pt c x s :=
 ⟨R.k.go m zp,R.tr.go m zp,λi hi=>by obtain⟨hp,hd,T⟩:=R.tk i hi;exact⟨hp,hd,T.go m zp zp⟩,R.tb.go m zp,R.me.go m zp,R.ps.go m zp zp zp zp,R.ob.go m zp zp zp,⟨T,R.mn.2⟩,SkO.go R.sk m zp,R.ev.go m zp⟩
theorem CeR.setSk{y z:Sk} (h1:s.slk=some y) (h2:x.s=some b) (m:Mv (λy=>y = .slk pt) o w o w') (T:SkR w' b x.sa x.sc x.sq z):CeR w' o pt c x { s with slk:=some z }:=by
 have hS:SkL w' o pt b x.sa x.sc x.sq z:=by
  rcases R.sk with ⟨h,_⟩ | ⟨z',b',e1,e2,h⟩
  .rw[h]at h1;cases h1
  .rw[e2]at h2
   cases h2;exact⟨T,h.2.1,Nat.lt_of_lt_of_le h.2.2.1 m.f.size,h.2.2.2⟩
 exact⟨R.k.go m zp,R.tr.go m zp,λi hi=>by obtain⟨hp,hd,T⟩:=R.tk i hi;exact⟨hp,hd,T.go m zp zp⟩,R.tb.go m zp,R.me.go m zp,R.ps.go m zp zp zp zp,R.ob.go m zp zp zp,R.mn.go m zp,.inr ⟨z,b,rfl,h2,hS⟩,R.ev.go m zp⟩
end
def Aft(w:World) (o:Gh) (pt c p:Nat) (s:Ce) (v:Value) (e:Ending) (w':World):Prop:=e = .returned v/\∃ o',Mv (PaL pt) o w o' w'/\CeW w' o' pt c p s
structure Bas(W w:World) (o:Gh):Prop where
 b:bW W w
 l:∀ k,k < W.heap.size->o k = .free
theorem Bas.go{L:Lb->Prop} {o o':Gh} (h:Bas W w o) (m:Mv L o w o' w') (hl:¬ L .free):Bas W w' o' :=
 ⟨h.b.trans (m.f.below (λk hk hs=>hl (by rw[h.l k hk]at hs;exact hs)) h.b.size),λk hk=>(m.a k (Nat.lt_of_lt_of_le hk h.b.size)).trans (h.l k hk)⟩
theorem q8e:ElemOf 55 67 6 48:=q1l (z := .agg #[ii 0,ii 0,ii 0,ii 0,ii 0,ii 0]) zk zk rfl zd zd
section
variable{w:World} {o:Gh} {pt c:Nat} {x:Cx} {s:Ce} (R:CeR w o pt c x s)
include R
theorem CeR.cell:∀ i,w.cell? ⟨c,i,none⟩ = #[.slice s.cf.regs.A s.cf.regs.l.length s.cf.regs.c,.slice s.cf.procs.A s.cf.procs.l.length s.cf.procs.c,.slice s.cf.ports.A s.cf.ports.l.length s.cf.ports.c,.slice s.cf.sems.A s.cf.sems.l.length s.cf.sems.c,ii s.cf.flags,.slice s.cf.pools.A s.cf.pools.l.length s.cf.pools.c,.slice s.cf.slates.A s.cf.slates.l.length s.cf.slates.c,ii s.cf.cap,ii s.cf.bud,ii s.cf.lad,.slice s.cf.acts.A s.cf.acts.l.length s.cf.acts.c,ii s.part,ii s.mode,ii s.win,.slice x.tr.A s.tk.length x.tr.c,pp x.t,pp x.g,pp x.p,pp x.ob,pp x.m,.pointer (x.s.map λb=>⟨b,0,none⟩),.slice x.eA s.evs.length x.ec][i]?:=R.k.1.cell
theorem CeR.c12:w.cell? ⟨c,12,none⟩=some (ii s.mode):=R.cell 12
theorem CeR.c13:w.cell? ⟨c,13,none⟩=some (ii s.win):=R.cell 13
theorem CeR.c14:w.cell? ⟨c,14,none⟩=some (.slice x.tr.A s.tk.length x.tr.c):=R.cell 14
theorem CeR.c15:w.cell? ⟨c,15,none⟩=some (pp x.t):=R.cell 15
theorem CeR.c16:w.cell? ⟨c,16,none⟩=some (pp x.g):=R.cell 16
theorem CeR.c17:w.cell? ⟨c,17,none⟩=some (pp x.p):=R.cell 17
theorem CeR.c18:w.cell? ⟨c,18,none⟩=some (pp x.ob):=R.cell 18
theorem CeR.c19:w.cell? ⟨c,19,none⟩=some (pp x.m):=R.cell 19
theorem CeR.c20:w.cell? ⟨c,20,none⟩=some (.pointer (x.s.map λb=>⟨b,0,none⟩)):=R.cell 20
theorem CeR.c21:w.cell? ⟨c,21,none⟩=some (.slice x.eA s.evs.length x.ec):=R.cell 21
theorem q60:cP 123 #[pp c] w λe w'=>e = .returned (.bool false)/\w=w':=by
 have kc:=R.cell;refine inC ?_;go_in;go_wp2;go_returns;exact⟨rfl,rfl⟩
theorem CeR.push{w9:World} {g:Nat} {e:Ev} (own:Own w9 67 6 (some ⟨g,0,none⟩) (s.evs.length + 1) cap (s.evs.flatMap Ev.f ++ e.f)) (f:Fr (q02 x.eA) w w9) (hat:q02 x.eA g\/w.heap.size<=g) :
  ∃ o',Mv (PaL pt) o w o' (w9.setCell ⟨c,21,none⟩ (.slice (some ⟨g,0,none⟩) (s.evs.length + 1) cap))/\CeR (w9.setCell ⟨c,21,none⟩ (.slice (some ⟨g,0,none⟩) (s.evs.length + 1) cap)) o' pt c { x with eA:=some ⟨g,0,none⟩,ec:=cap } { s with evs:=s.evs ++ [e] }:=by
 have m1:Mv (λy=>y = .evs pt) o w (lay w o (.evs pt)) w9:=Mv.lay _ f (λj _ hj=>R.ev.2 j hj);have k9:=R.k.go m1 zp;have m2:Mv (λy=>y = .evs pt\/y = .cell pt) o w (lay w o (.evs pt)) (w9.setCell ⟨c,21,none⟩ (.slice (some ⟨g,0,none⟩) (s.evs.length + 1) cap)):=(m1.mono λ_ h => .inl h).setC (λ_ => .inr R.k.2) 21 _;have hL:(s.evs ++ [e]).length=s.evs.length + 1:=zp;have hF:(s.evs ++ [e]).flatMap Ev.f=s.evs.flatMap Ev.f ++ e.f:=zp;refine⟨_,m2.mono (by rintro _ (rfl | rfl) <;> rfl),?_,R.tr.go m2 zp,λi hi=>by obtain⟨hp,hd,T⟩:=R.tk i hi;exact⟨hp,hd,T.go m2 zp zp⟩,R.tb.go m2 zp,R.me.go m2 zp,R.ps.go m2 zp zp zp zp,R.ob.go m2 zp zp zp,R.mn.go m2 zp,SkO.go R.sk m2 zp,?_⟩
 .have:=k9.set 21 (.slice (some ⟨g,0,none⟩) (s.evs.length + 1) cap);unfold Cx.cells;rw[hL];exact this
 .rw[hL,hF];refine⟨own.fr ((Fr.refl (λj=>j=c) w9).setCell (p:=⟨c,21,none⟩) (λ_=>rfl) _) (λj hj e=>own.ne k9.1 zd (by rw[<- e];exact hj)),λj hj=>?_⟩;cases hj;by_cases q:g < w.heap.size
  .exact(q0l q).trans (R.ev.2 g (hat.resolve_right zo))
  .exact q07 zo
theorem q9f(hn:s.evs.length<=100000000000) {k call code v:Int} : cP 288 #[pp c,ii k,ii call,ii code,ii v] w λe w'=>Aft w o pt c x.p (q0i s k call code v) (.tuple #[]) e w':=by
 have kc:=R.cell;have lt:=R.k.1.lt;have h1:¬ q02 x.eA c:=R.ev.1.ne R.k.1 zd;refine inC ?_;go_in;refine q88 (q02 x.eA) [(18,0),(0,0),(2,2)] ?_;simp only[q03,tkO,dpO]
 repeat(go_big_quiet_step (fail))
 refine qwW (λK' hK'=>?_);go_wp2_with fail;have b4:bW w (w.drew.alloc (.cells #[ii s.part,ii s.win,ii k,ii call,ii code,ii v] 67)):=zv;have kx:=Blk.new w.drew 67 #[ii s.part,ii s.win,ii k,ii call,ii code,ii v];refine zG (fO b4 _) ?_;clear hK' K';have h0:=R.ev.1.keep b4;refine qwW (λK' hK'=>?_);refine q8a q8e _ _ _ zr zr h0 w.heap.size #[ii s.part,ii s.win,ii k,ii call,ii code,ii v] rfl (by simp[Value.oneCell']) kx zr hn ?_;intro g cap w9 hown9 hf9 hat9;have f9:=(fO b4 (q02 x.eA)).trans hf9;have k9:=R.k.1.fr f9 h1;have k9c:=k9.cell;have k9f:=k9.frozen;have k9l:=k9.lt;refine hK' _ _ rfl (q01 f9) ?_;clear hK' K';refine zN ?_;refine qwB (λK' hK'=>?_);go_wp2_with fail;refine zE ?_;clear hK' K';go_wp2_with fail;go_returns;obtain⟨o',m,R'⟩:=R.push (e:=⟨s.part,s.win,k,call,code,v⟩) hown9 f9 (hat9.imp id (λe=>Nat.le_trans b4.size (Nat.le_of_eq e.symm)));exact⟨rfl,o',m,{ x with eA:=some ⟨g,0,none⟩,ec:=cap },rfl,R'⟩
end
theorem step_any{o:Gh} {l:Lb} {hp:Hd St} {hd:Hd UInt8} {t:Tk} (T:TkR w o l q hp hd t):cP 239 #[pp q] w λe w'=>e = .returned (.agg (St.lw t.step))/\bW w w':=by
 obtain⟨hA,hc,hl⟩:=hp;have h2:hl=t.prog:=T.pl;have h6:t.at_ < hl.length:=by rw[h2];exact T.at_
 obtain⟨sb,so,h4,h3,h0⟩:=T.p.1.at_ St0 (k:=t.at_) h6;have h5:atD St0 hl t.at_=t.step:=by rw[h2];rfl
 simp only at h4;subst h4;have kc:=T.k.1.cell;simp only[Hd.v]at kc;have lt:=T.k.1.lt;have s0:w.cell? ⟨sb,so + t.at_ * 6,none⟩=some (ii (atD St0 hl t.at_).cyc):=h0 0 _ rfl;have s1:=h0 1 _ rfl;have s2:=h0 2 _ rfl;have s3:=h0 3 _ rfl;have s4:=h0 4 _ rfl;have s5:=h0 5 _ rfl;rw[h5]at s0 s1 s2 s3 s4 s5
 clear h2 h5 h0 T;generalize t.at_=n at *;generalize t.step=y at *;refine inC ?_;go_in;go_wp2_with fail;have b1:bW w (w.alloc (.cells #[ii 0,ii 0,ii 0,ii 0,ii 0,ii 0] 81)):=zv;have kr:=Blk.new w 81 #[ii 0,ii 0,ii 0,ii 0,ii 0,ii 0];obtain⟨h1,h7⟩:=qcl b1;have c0:=λi=>(h1 q i lt).trans (kc i);rw[<- h1 _ _ h3]at s0 s1 s2 s3 s4 s5
 have l0:q < (w.alloc (.cells #[ii 0,ii 0,ii 0,ii 0,ii 0,ii 0] 81)).heap.size:=Nat.lt_of_lt_of_le lt b1.size;have l1:sb < (w.alloc (.cells #[ii 0,ii 0,ii 0,ii 0,ii 0,ii 0] 81)).heap.size:=Nat.lt_of_lt_of_le h3 b1.size;generalize w.alloc (.cells #[ii 0,ii 0,ii 0,ii 0,ii 0,ii 0] 81)=w1 at *;obtain⟨r,hr⟩:∃ r,r=w.heap.size:=⟨_,rfl⟩
 have HR:Hid (w.heap.size<=r):=Nat.le_of_eq hr.symm;rw[<- hr]at kr
 rw[<- hr];clear hr kc lt h3 h1 h7;have kf:=kr.frozen;obtain⟨kk,lr⟩:=kr.cl;refine zB [(10,2)] λK' hK'=>?_;go_wp2_with fail;refine zE ?_;clear hK' K';go_wp2_with fail;have rK:=Blk.row (vs:=[ii y.cyc,ii y.call,ii y.a,ii y.b,ii y.c,ii y.d]) kr rfl;have rB:bW w (setRow w1 r 0 [ii y.cyc,ii y.call,ii y.a,ii y.b,ii y.c,ii y.d]):=Below.row _ 0 b1 HR.out;simp only[setRow,Nat.zero_add]at rK rB;generalize (((((w1.setCell ⟨r,0,none⟩ (ii y.cyc)).setCell ⟨r,1,none⟩ (ii y.call)).setCell ⟨r,2,none⟩ (ii y.a)).setCell ⟨r,3,none⟩ (ii y.b)).setCell ⟨r,4,none⟩ (ii y.c)).setCell ⟨r,5,none⟩ (ii y.d)=w9 at *;have z:=rK.drew.cell;have z0:=z 0;have z1:=z 1;have z2:=z 2;have z3:=z 3;have z4:=z 4;have z5:=z 5;exact bodyPost_ret (by simp[results,Tryz.results239,go_sem,z0,z1,z2,z3,z4,z5]) rfl ⟨rfl,rB.drew⟩
theorem qrx(a b c d e f:Int) (w:World):(Instr.field 81 (.agg #[ii a,ii b,ii c,ii d,ii e,ii f]) 0).run Tryz.prog w = .ok (ii a) w:=zk
theorem qo0{o:Gh} {l:Lb} {hp:Hd St} {hd:Hd UInt8} {t:Tk} (T:TkR w o l q hp hd t) (hl:l ≠ .data) {k:Nat} (hk:k<=1000000):cP 180 #[pp q,ii k] w λe w'=>e = .returned (.tuple #[])/\Mv (λy=>y=l) o w o w'/\TkR w' o l q hp hd (t.set k):=by
 have hn:=T.at_;have hnn:=T.n;have h2:hp.l.length=t.prog.length:=by rw[T.pl]
 have kc:=T.k.1.cell;have kf:=T.k.1.frozen;have lt:=T.k.1.lt;simp only[Hd.v]at kc;rw[h2]at kc
 clear h2;have h1:k % t.prog.length < t.prog.length:=Nat.mod_lt _ zo;have e1:((k:Int) % (t.prog.length:Int))=((k % t.prog.length:Nat):Int):=rfl;have m1:Mv (λy=>y=l) o w o (w.setCell ⟨q,1,none⟩ (ii ((k:Int) % (t.prog.length:Int)))):=Mv.setC (L:=λy=>y=l) (Mv.refl _ o w) (q:=q) (λ_=>T.k.2) 1 _;have K1:=T.k.set 1 (ii ((k:Int) % (t.prog.length:Int)));have T1:TkR (w.setCell ⟨q,1,none⟩ (ii ((k:Int) % (t.prog.length:Int)))) o l q hp hd { t with at_:=k % t.prog.length } :=
  ⟨by rw[e1]at K1 ⊢;exact K1,T.p.go m1 (λe=>hl e.symm),T.pl,T.d.go m1 (λe=>hl e.symm),T.dl,h1,T.n,T.a,T.dn⟩
 have hS:=step_any T1;have h3:({ t with at_:=k % t.prog.length } : Tk).step=atD St0 t.prog (k % t.prog.length):=rfl;rw[h3]at hS
 have HX:=zhd (show t.set k={ t with at_:=k % t.prog.length,rest:=q8n (atD St0 t.prog (k % t.prog.length)).cyc 1 1073741824 } from rfl);clear h3 e1 h1;generalize atD St0 t.prog (k % t.prog.length)=y at *;have hfd:=λw=>qrx y.cyc y.call y.a y.b y.c y.d w;refine inC ?_;go_in;go_wp2_with (first | (go_at_call 239;refine hS.mono ?_;rintro _ w2 ⟨rfl,h0⟩;have kf2:=(T1.k.1.keep h0).frozen;obtain⟨kc2,lt2⟩:=(T1.k.1.keep h0).cl) | (go_at_call 176;refine(qea).mono ?_;rintro _ _ ⟨rfl,rfl⟩));go_returns;rw[HX.out];have m2:=(m1.trans (Mv.below h0)).setC (λ_=>T.k.2) 2 (ii (q8n y.cyc 1 1073741824));have m3:Mv (λy=>y=l) o (w.setCell ⟨q,1,none⟩ (ii ((k:Int) % (t.prog.length:Int)))) o (w2.setCell ⟨q,2,none⟩ (ii (q8n y.cyc 1 1073741824))):=(Mv.below h0).setC (λ_=>T.k.2) 2 _;exact⟨rfl,m2,⟨((T1.k.go (L:=λ_=>False) (Mv.below h0) id).set 2 _),T1.p.go m3 (λe=>hl e.symm),T1.pl,T1.d.go m3 (λe=>hl e.symm),T1.dl,T1.at_,T1.n,T1.a,T1.dn⟩⟩
section
variable{w:World} {o:Gh} {pt c:Nat} {x:Cx} {s:Ce} (R:CeR w o pt c x s)
include R
theorem CeR.task{k:Nat} (hk:k < s.tk.length):∃ a,x.tr.A=some ⟨a,0,none⟩/\a < w.heap.size/\w.cell? ⟨a,k,none⟩=some (pp (atN x.tr.qs k)):=R.tr.at_ hk
theorem CeR.data{k:Nat} (hk:k < s.tk.length):Mv (λy=>y = .task pt k) o w o (w.setCell ⟨atN x.tr.qs k,4,none⟩ (.slice none 0 0))/\CeR (w.setCell ⟨atN x.tr.qs k,4,none⟩ (.slice none 0 0)) o pt c x (q1d s k { atD Tk0 s.tk k with data:=[] }):=by
 obtain⟨hp,hd,T⟩:=R.tk k hk;have m:Mv (λy=>y = .task pt k) o w o (w.setCell ⟨atN x.tr.qs k,4,none⟩ (.slice none 0 0)):=Mv.setC (L:=λy=>y = .task pt k) (Mv.refl _ o w) (q:=atN x.tr.qs k) (λ_=>T.k.2) 4 _;exact⟨m,R.setTk (hp:=hp) (hd:=⟨none,0,[]⟩) hk m ⟨T.k.set 4 _,T.p.go m zp,T.pl,Dat.nil,rfl,T.at_,T.n,T.a,zp⟩⟩
theorem q6e{k:Nat} (hk:k < s.tk.length) (h8:s.tk.length<=8):cP 325 #[pp c,ii k] w λe w'=>Aft w o pt c x.p (q2e s k) (.tuple #[]) e w':=by
 have h0:=R.c14;have lt:=R.k.1.lt;obtain⟨hp,hd,T⟩:=R.tk k hk;have tf:=T.k.1.frozen;obtain⟨tc,tl⟩:=T.k.1.cl;obtain⟨m,R1⟩:=R.data hk;have d15:=R1.c15;have hS:=qcz R1.tb.1 (k:=k) (s:=0) (by unfold i64;omega);obtain⟨a,hA,hal,hac⟩:=R.task hk;rw[hA]at h0
 have HE:Hid (q2e s k=q6a (q1d s k { atD Tk0 s.tk k with data:=[] }) (setS (q1d s k { atD Tk0 s.tk k with data:=[] }).tab (q1d s k { atD Tk0 s.tk k with data:=[] }).tn k 0).2):=rfl;generalize q1d s k { atD Tk0 s.tk k with data:=[] } = s1 at *;clear T hA;refine inC ?_;go_in;go_wp2_with (go_at_call 331;refine hS.mono ?_;rintro _ w2 ⟨rfl,T2,f2⟩);go_returns;have m2:=R1.tb.mv f2;exact⟨rfl,o,(m.mono (by rintro _ rfl;rfl)).trans (m2.mono (by rintro _ rfl;rfl)),x,rfl,by rw[HE.out];exact R1.setTab m2 T2⟩
theorem CeR.slkOf{y:Sk} (h:s.slk=some y):∃ b,x.s=some b:=by
 rcases R.sk with ⟨e,_⟩ | ⟨y',b,e1,e2,S⟩
 .rw[e]at h;cases h
 .exact⟨b,e2⟩
theorem CeR.slkAt{y:Sk} (h:s.slk=some y) (hb:x.s=some b):SkL w o pt b x.sa x.sc x.sq y:=by
 rcases R.sk with ⟨e,_⟩ | ⟨y',b',e1,e2,S⟩
 .rw[e]at h;cases h
 .rw[h]at e1;cases e1;rw[hb]at e2;cases e2;exact S
theorem qim{k:Nat} (hk:k < s.tk.length) (h8:s.tk.length<=8) (hs:s.slk≠none) (hh:∀ y,s.slk=some y->k < y.has.length):cP 298 #[pp c,ii k] w λe w'=>Aft w o pt c x.p (q57 s k) (.tuple #[]) e w':=by
 have h3:=R.c14;have lt:=R.k.1.lt;obtain⟨hp,hd,T⟩:=R.tk k hk;have tf:=T.k.1.frozen;obtain⟨tc,tl⟩:=T.k.1.cl;have m:Mv (λy=>y = .task pt k) o w o (w.setCell ⟨atN x.tr.qs k,5,none⟩ (.bool true)):=Mv.setC (L:=λy=>y = .task pt k) (Mv.refl _ o w) (q:=atN x.tr.qs k) (λ_=>T.k.2) 5 _;have R1:=R.setTk (t:={ atD Tk0 s.tk k with done:=true }) (hp:=hp) (hd:=hd) hk m ⟨T.k.set 5 (.bool true),T.p.go m zp,T.pl,T.d.go m zp,T.dl,T.at_,T.n,T.a,T.dn⟩;have d15:=R1.c15;have hS:=qel R1.tb.1 (k:=k) (by unfold i64;omega);obtain⟨a,hA,hal,hac⟩:=R.task hk;rw[hA]at h3
 have HE:Hid (q57 s k={ q1d s k { atD Tk0 s.tk k with done:=true } with tab:=(qa1 (q1d s k { atD Tk0 s.tk k with done:=true }).tab k).2,slk:=some (qqt (q1d s k { atD Tk0 s.tk k with done:=true }).sk k) }):=rfl;obtain⟨y,hy⟩:=Option.ne_none_iff_exists'.1 hs;have h0:(q1d s k { atD Tk0 s.tk k with done:=true }).slk=some y:=hy;have h2:(q1d s k { atD Tk0 s.tk k with done:=true }).sk=y:=by unfold Ce.sk;rw[h0];rfl
 rw[h2]at HE
 have h5:=hh y hy;generalize q1d s k { atD Tk0 s.tk k with done:=true } = s1 at *;obtain⟨b,h1⟩:=R.slkOf hy;have HX:=zhd h1;have HY:=zhd h0;clear T hA h2 h0 hy hh hs h1;refine inC ?_;go_in;go_wp2_with (first | (go_at_call 182;refine hS.mono ?_;rintro _ w2 ⟨rfl,T2,f2⟩;have m2:=R1.tb.mv f2;have R2:=R1.setTab m2 T2;have S:=R2.slkAt HY.out HX.out;have h4:=R2.c20;rw[HX.out]at h4) | (go_at_call 335;refine(qgw S.1 k h5).mono ?_;rintro _ w3 ⟨rfl,T3,f3⟩));go_returns;have m3:=S.mv f3;exact⟨rfl,o,((m.mono (by rintro _ rfl;rfl)).trans (m2.mono (by rintro _ rfl;rfl))).trans (m3.mono (by rintro _ rfl;rfl)),x,rfl,by rw[HE.out];exact R2.setSk HY.out HX.out m3 T3⟩
theorem q61{k:Nat} {win:Int} (hk:k < s.tk.length) (h8:s.tk.length<=8):cP 122 #[pp c,ii k,ii win] w λe w'=>Aft w o pt c x.p (q0m s k win) (.tuple #[]) e w':=by
 have h4:=R.c14;have lt:=R.k.1.lt;obtain⟨hp,hd,T⟩:=R.tk k hk;obtain⟨a,hA,hal,hac⟩:=R.task hk;rw[hA]at h4
 have hS:=qo0 T zp (k:=0) zd;have HE:Hid (q0m s k win=if (atD Tk0 s.tk k).done=true then { q6a (q1d s k { (atD Tk0 s.tk k).set 0 with data:=[] }) (q6n (q1d s k { (atD Tk0 s.tk k).set 0 with data:=[] }).tab (q1d s k { (atD Tk0 s.tk k).set 0 with data:=[] }).tn k win).2 with tab:=(qa1 (q6a (q1d s k { (atD Tk0 s.tk k).set 0 with data:=[] }) (q6n (q1d s k { (atD Tk0 s.tk k).set 0 with data:=[] }).tab (q1d s k { (atD Tk0 s.tk k).set 0 with data:=[] }).tn k win).2).tab k).2 } else q6a (q1d s k { (atD Tk0 s.tk k).set 0 with data:=[] }) (q6n (q1d s k { (atD Tk0 s.tk k).set 0 with data:=[] }).tab (q1d s k { (atD Tk0 s.tk k).set 0 with data:=[] }).tn k win).2):=rfl;have h0:((atD Tk0 s.tk k).set 0).done=(atD Tk0 s.tk k).done:=rfl;generalize (atD Tk0 s.tk k).set 0=t1 at *;rw[<- h0]at HE
 clear T hA h0;have hD:∀ w2,Mv (λy=>y = .task pt k) o w o w2->TkR w2 o (.task pt k) (atN x.tr.qs k) hp hd t1->Mv (λy=>y = .task pt k) o w o (w2.setCell ⟨atN x.tr.qs k,4,none⟩ (.slice none 0 0))/\(∃ h3 h2,TkR (w2.setCell ⟨atN x.tr.qs k,4,none⟩ (.slice none 0 0)) o (.task pt k) (atN x.tr.qs k) h3 h2 { t1 with data:=[] })/\CeR (w2.setCell ⟨atN x.tr.qs k,4,none⟩ (.slice none 0 0)) o pt c x (q1d s k { t1 with data:=[] }):=λw2 m T=>by
  have m2:=m.setC (q:=atN x.tr.qs k) (λ_=>by
   obtain⟨_,_,T0⟩:=R.tk k hk;exact T0.k.2) 4 (.slice none 0 0)
  have m3:Mv (λy=>y = .task pt k) o w2 o (w2.setCell ⟨atN x.tr.qs k,4,none⟩ (.slice none 0 0)):=Mv.setC (L:=λy=>y = .task pt k) (Mv.refl _ o w2) (q:=atN x.tr.qs k) (λ_=>T.k.2) 4 _;have T2:TkR (w2.setCell ⟨atN x.tr.qs k,4,none⟩ (.slice none 0 0)) o (.task pt k) (atN x.tr.qs k) hp ⟨none,0,[]⟩ { t1 with data:=[] }:=⟨T.k.set 4 _,T.p.go m3 zp,T.pl,Dat.nil,rfl,T.at_,T.n,T.a,zp⟩
  exact⟨m2,⟨_,_,T2⟩,R.setTk hk m2 T2⟩
 replace hD:=zhd hD;generalize q1d s k { t1 with data:=[] } = s1 at *;have h1:i64 (k:Int):=by unfold i64;omega
 have h6:=λ{w:World} {l:List Rw} {tn:Int} {t mb:Nat} (h:TbR w t mb l tn)=>qjn h (k:=k) (win:=win) h1;have h5:=λ{w:World} {l:List Rw} {tn:Int} {t mb:Nat} (h:TbR w t mb l tn)=>qel h (k:=k) h1;clear h1;refine inC ?_;go_in;go_wp2_with (first
  | (go_at_call 180;refine hS.mono ?_;rintro _ w2 ⟨rfl,m2,T2⟩;obtain⟨m3,⟨h3,h2,T3⟩,R3⟩:=hD.out w2 m2 T2;have tf2:=T2.k.1.frozen;obtain⟨tc2,tl2⟩:=T2.k.1.cl;have e15:=R3.c15)
  | (go_at_call 181;refine(h6 R3.tb.1).mono ?_;rintro _ w4 ⟨rfl,T4,f4⟩;have m4:=R3.tb.mv f4;have R4:=R3.setTab m4 T4;have T5:=T3.go m4 zp zp;obtain⟨tc5,tl5⟩:=T5.k.1.cl;have f15:=R4.c15)
  | (go_at_call 182;refine(h5 R4.tb.1).mono ?_;rintro _ w5 ⟨rfl,T6,f6⟩))
 all_goals rename_i h0
 all_goals go_returns
 .exact⟨rfl,o,((m3.mono (by rintro _ rfl;rfl)).trans (m4.mono (by rintro _ rfl;rfl))).trans ((R4.tb.mv f6).mono (by rintro _ rfl;rfl)),x,rfl,by rw[HE.out,if_pos h0];exact R4.setTab (R4.tb.mv f6) T6⟩
 .exact⟨rfl,o,(m3.mono (by rintro _ rfl;rfl)).trans (m4.mono (by rintro _ rfl;rfl)),x,rfl,by rw[HE.out,if_neg (by simp[h0])];exact R4⟩
end
end Go.Proofs.YtncfcbohiodnnaaGreat
