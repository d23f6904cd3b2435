/- Parts of this seat's claims. -/
import Derived.Test.YtncfcbohiodnnaaGreatWX9
set_option maxRecDepth 100000
set_option maxHeartbeats 6400000
namespace Go.Proofs.YtncfcbohiodnnaaGreat
open Go.RowKit
variable{w w' W wa wo W':World}{c n pt r B j b m mb q base cap id B0:Nat}{A:Option Addr}{a code what:Int}{cs:Array Value}
structure SoR{α:Type}(d:α)(cell:α->Array Value)(wo w:World)(o:Gh)(pt i0:Nat)(t tp:TypeId)(q:List α)(k:Nat)(A:Option Addr)(c:Nat)(qs:List Nat)(o':Gh):Prop where
 M:Mv (λ_=>False) o wo o' w
 row:qbj w o' (.obs pt) tp ⟨A,c,qs⟩ k
 el:∀i,i<k->q1t w o' (.obj pt i0 i) (zg qs i) t (cell (z6 d q i))
 lo:∀j,q02 A j->wo.heap.size<=j
theorem SoR.nil{α:Type}(d:α)(cell:α->Array Value){wo w:World}(o:Gh)(pt i0:Nat)(t tp:TypeId)(q:List α)(hb:bW wo w):SoR d cell wo w o pt i0 t tp q 0 none 0 [] o :=
 ⟨Mv.below hb,⟨⟨zj.nil _ _ _,λk hk=>by cases hk⟩,rfl⟩,λi hi=>absurd hi (Zn _),λj hj=>by cases hj⟩
theorem SoR.go{α:Type}{d:α}{cell:α->Array Value}{o o' o'':Gh}{i0:Nat}{t tp:TypeId}{q:List α}{k:Nat}{qs:List Nat}(R:SoR d cell wo w o pt i0 t tp q k A c qs o')(m:Mv (λ_=>False) o' w o'' w'):SoR d cell wo w' o pt i0 t tp q k A c qs o'' :=
 ⟨R.M.trans m,R.row.go m id,λi hi=>(R.el i hi).go m id,R.lo⟩
theorem SoR.push{α:Type}{d:α}{cell:α->Array Value}{w9:World}{o o':Gh}{i0:Nat}{t tp:TypeId}{q:List α}{k:Nat}{g g2:Nat}{qs:List Nat}(R:SoR d cell wo w o pt i0 t tp q k A c qs o')
 (kg:Blk w9 g t (cell (z6 d q k)))(hg:w.heap.size<=g)(own:zj w9 tp 1 (some ⟨g2,0,none⟩) (k+1) cap (qeq qs ++ [pp g]))(f:Fr (q02 A) w w9)(hat:q02 A g2\/w.heap.size<=g2)(hgg:g2≠g) :
  ∃o2,SoR d cell wo w9 o pt i0 t tp q (k+1) (some ⟨g2,0,none⟩) cap (qs ++ [g]) o2:=by
 have hs:wo.heap.size<=w.heap.size:=R.M.f.size;have m:Mv (λy=>y=.obs pt) o' w (λj=>if j=g then .obj pt i0 k else if j=g2 then .obs pt else lay w o' .data j) w9:=⟨f.mono λj _ hj=>R.row.1.2 j hj,λj hj=>by
  show(if j=g then _ else _)=_;rw[Z0 zo];by_cases q:j=g2
  .rw[Z1 q,q];exact(R.row.1.2 g2 (hat.resolve_right zo)).symm
  .rw[Z0 q,q0l hj]⟩
 have hM:Mv (λ_=>False) o wo (λj=>if j=g then Lb.obj pt i0 k else if j=g2 then .obs pt else lay w o' .data j) w9 :=
  ⟨R.M.f.trans' f λj hj h=>by have:=R.lo j h;omega,λj hj=>(m.a j zo).trans (R.M.a j hj)⟩
 refine⟨_,hM,⟨⟨by unfold qeq at own⊢;rw[Zk];exact own,λj hj=>?_⟩,by rw[Ze,R.row.2];rfl⟩,λi hi=>?_,λj hj=>?_⟩;{cases hj;show(if g2=g then _ else _)=_;rw[Z0 hgg,Z1 rfl]};{show q1t w9 _ _ (zg (qs ++ [g]) i) t _;have hq:qs.length=k:=R.row.2;rw[q28,hq];by_cases q:i<k;{rw[Z1 q];exact(R.el i q).go m zp};{obtain rfl:i=k:=zo;rw[Z0 q,Z1 rfl];exact⟨kg,Z1 rfl⟩}};{cases hj;rcases hat with h|h;{exact R.lo g2 h};{omega}}
theorem SoR.setR{α:Type}{d:α}{cell:α->Array Value}{o o':Gh}{i0:Nat}{t tp tr:TypeId}{q:List α}{k:Nat}{g i:Nat}{v:Value}{qs:List Nat}(R:SoR d cell wo w o pt i0 t tp q k A c qs o')(hg:wo.heap.size<=g)(kg:Blk w g tr cs)(h1:tp≠tr)(h2:t≠tr):SoR d cell wo (w.setCell ⟨g,i,none⟩ v) o pt i0 t tp q k A c qs o':=by have f:Fr (λj=>j=g) w (w.setCell ⟨g,i,none⟩ v):=(Fr.refl (λj=>j=g) w).setCell (p:=⟨g,i,none⟩) (λ_=>rfl) _;exact⟨⟨R.M.f.setCell (p:=⟨g,i,none⟩) (λh=>absurd h (by simp only;omega)) v,R.M.a⟩,⟨⟨R.row.1.1.fr f (λj hj e=>R.row.1.1.ne kg h1 (by rw[<- e];exact hj)),R.row.1.2⟩,R.row.2⟩,λj hj=>⟨(R.el j hj).1.fr f (λe=>(R.el j hj).1.ne kg h2 e),(R.el j hj).2⟩,R.lo⟩
theorem qvt{α:Type}{l:List α}{k:Nat}(h:l.length=n):l.take k=l.take (min n k):=by rw[List.take_eq_take_min (i:=k),h,Nat.min_comm]
structure Si{α:Type}(ct rt et tp sz mo i0:Nat)(mi:Int)(st:Bool)(cl ec:α->Array Value)(rd:α->List Value)(d:α):Type where
abbrev Si.ct{α:Type}{ct rt et tp sz mo i0:Nat}{mi:Int}{st:Bool}{cl ec:α->Array Value}{rd:α->List Value}{d:α}(_:Si ct rt et tp sz mo i0 mi st cl ec rd d):TypeId:=ct
abbrev Si.rt{α:Type}{ct rt et tp sz mo i0:Nat}{mi:Int}{st:Bool}{cl ec:α->Array Value}{rd:α->List Value}{d:α}(_:Si ct rt et tp sz mo i0 mi st cl ec rd d):TypeId:=rt
abbrev Si.et{α:Type}{ct rt et tp sz mo i0:Nat}{mi:Int}{st:Bool}{cl ec:α->Array Value}{rd:α->List Value}{d:α}(_:Si ct rt et tp sz mo i0 mi st cl ec rd d):TypeId:=et
abbrev Si.tp{α:Type}{ct rt et tp sz mo i0:Nat}{mi:Int}{st:Bool}{cl ec:α->Array Value}{rd:α->List Value}{d:α}(_:Si ct rt et tp sz mo i0 mi st cl ec rd d):TypeId:=tp
abbrev Si.sz{α:Type}{ct rt et tp sz mo i0:Nat}{mi:Int}{st:Bool}{cl ec:α->Array Value}{rd:α->List Value}{d:α}(_:Si ct rt et tp sz mo i0 mi st cl ec rd d):Nat:=sz
abbrev Si.mo{α:Type}{ct rt et tp sz mo i0:Nat}{mi:Int}{st:Bool}{cl ec:α->Array Value}{rd:α->List Value}{d:α}(_:Si ct rt et tp sz mo i0 mi st cl ec rd d):Nat:=mo
abbrev Si.i0{α:Type}{ct rt et tp sz mo i0:Nat}{mi:Int}{st:Bool}{cl ec:α->Array Value}{rd:α->List Value}{d:α}(_:Si ct rt et tp sz mo i0 mi st cl ec rd d):Nat:=i0
abbrev Si.mi{α:Type}{ct rt et tp sz mo i0:Nat}{mi:Int}{st:Bool}{cl ec:α->Array Value}{rd:α->List Value}{d:α}(_:Si ct rt et tp sz mo i0 mi st cl ec rd d):Int:=mi
abbrev Si.st{α:Type}{ct rt et tp sz mo i0:Nat}{mi:Int}{st:Bool}{cl ec:α->Array Value}{rd:α->List Value}{d:α}(_:Si ct rt et tp sz mo i0 mi st cl ec rd d):Bool:=st
abbrev Si.cl{α:Type}{ct rt et tp sz mo i0:Nat}{mi:Int}{st:Bool}{cl ec:α->Array Value}{rd:α->List Value}{d:α}(_:Si ct rt et tp sz mo i0 mi st cl ec rd d):α->Array Value:=cl
abbrev Si.ec{α:Type}{ct rt et tp sz mo i0:Nat}{mi:Int}{st:Bool}{cl ec:α->Array Value}{rd:α->List Value}{d:α}(_:Si ct rt et tp sz mo i0 mi st cl ec rd d):α->Array Value:=ec
abbrev Si.rd{α:Type}{ct rt et tp sz mo i0:Nat}{mi:Int}{st:Bool}{cl ec:α->Array Value}{rd:α->List Value}{d:α}(_:Si ct rt et tp sz mo i0 mi st cl ec rd d):α->List Value:=rd
abbrev Si.d{α:Type}{ct rt et tp sz mo i0:Nat}{mi:Int}{st:Bool}{cl ec:α->Array Value}{rd:α->List Value}{d:α}(_:Si ct rt et tp sz mo i0 mi st cl ec rd d):α:=d
def qkc{α:Type}(C:FuncId)(et:TypeId)(v:α->Value)(ec:α->Array Value):Prop :=
 ∀ {w:World} {x:α},cP C #[v x] w λe w'=>∃g,e=.returned (pp g)/\Blk w' g et (ec x)/\w.heap.size<=g/\bW w w'
def qkd{α:Type}(F C:FuncId)(et tp sz mo i0:Nat)(mi:Int)(ec:α->Array Value)(rd:α->List Value)(d:α):Prop :=
 ∀ {w:World} {o:Gh} {pt:Nat} {A:Option Addr} {n c:Nat} {l:List α},zx w A n c sz rd l->cP F #[.slice A n c,ii mi,.func (.func C) #[] #[]] w λe w'=>∃(B:Option Addr) (cap:Nat) (qs:List Nat) (o':Gh),e=.returned (.agg #[.slice B (l.take mo).length cap])/\SoR d ec w w' o pt i0 et tp (l.take mo) (l.take mo).length B cap qs o'
theorem qrv{α:Type}{F C N ct rt et tp ps ls sz mo i0:Nat}{fn:Func}{mi:Int}{st:Bool}{cl ec:α->Array Value}{rd:α->List Value}{d:α}{v:α->Value}(i:Si ct rt et tp sz mo i0 mi st cl ec rd d)(hE:ElemOf ps tp 1 8)(hu:Tryz.prog.underlying ls=some (.slice (Tryz.prog.elem ls)))(hz:∀w,(sizeOf (Tryz.prog.elem ls)).run Tryz.prog w=.ok sz w)(hm:qkc C et v ec)(hF:Tryz.prog.funcs[F]?=some fn)(hN:fn.ntmps=N)(hd:tp≠rt/\tp≠ct/\et≠rt:=by decide)
   (s:Si ct rt et tp sz mo i0 mi st cl ec rd d->Hid (ElemOf ps tp 1 8)->Hid (∀w (A:Option Addr) (n c m:Nat),m<=c->(Instr.sliceAt ls (.slice A n c) none (some (ii m)) none).run Tryz.prog w=.ok (.slice (qg A 0 c sz) m c) w)->Hid (qkc C et v ec)->Tryz.prog.funcs[F]?=some fn->fn.ntmps=N->Hid (tp≠rt/\tp≠ct/\et≠rt)->qkd F C et tp sz mo i0 mi ec rd d:=by
      intro i hE hU hM hF hN hd w o pt A n c l hl;(try dsimp only);have hc:=hl.1.2.1;have hlen:=hl.len;have ht:=hl.2.1;obtain⟨m,hm⟩:=aU (min n i.mo);have h7:=qvt (k:=i.mo) hl.2.1;rw[<- hm]at h7;simp only[Si.mo]at hm h7;have h9:zx w (qg A 0 c i.sz) m c i.sz i.rd (l.take m):=by have h:=hl.cut (Za m) (by omega:m<=n);simpa using h
      have hsl:=λw=>hU.out w A n c m (by omega);have he:min (n:Int) i.mi=m:=by simp only[Si.mi];omega
      simp only[Si.mi]at he;rw[h7];have hq:(l.take m).length=m:=by rw[Zq];omega
      rw[hq];have hv:m<=i.mo:=by simp only[Si.mo];omega
      simp only[Si.mo]at hv;generalize l.take m=q at*;generalize qg A 0 c i.sz=A0 at*;clear hm h7 hl ht hU;have h0:=(Blk.new w i.rt #[nS]).alloc (.cells #[nS] i.rt);have h1:=Blk.new (w.alloc (.cells #[nS] i.rt)) i.rt #[nS];rw[Z9]at h1;have b0:bW w ((w.alloc (.cells #[nS] i.rt)).alloc (.cells #[nS] i.rt)):=by go_grown
      obtain⟨wo,rfl⟩:=aU w;go_enter hF,hN;clear hF hN;go_upto_region 2 with fail;generalize(wo.alloc (.cells #[nS] i.rt)).alloc (.cells #[nS] i.rt)=w1 at*;obtain⟨r1,hf⟩:=aU wo.heap.size;obtain⟨r2,hh⟩:=aU (wo.heap.size+1);rw[<- hf]at h0;rw[<- hh]at h1;rw[<- hh,<- hf];have HR:Hid (r1≠r2/\wo.heap.size<=r1/\wo.heap.size<=r2):=by show _/\_;omega
      clear hf hh;go_wp2_with fail;go_loopw[17] (λi' wr=>∃(k:Nat) (A:Option Addr) (c:Nat) (qs:List Nat) (o':Gh),i'=.int .i64 k/\k<=m/\Blk wr r1 i.rt #[nS]/\Blk wr r2 i.rt #[.slice A k c]/\SoR i.d i.ec wo wr o pt i.i0 i.et i.tp q k A c qs o') (λi' _=>m-(intOf i').toNat)
      case atStart=>exact⟨0,none,0,[],o,rfl,Za _,h0,h1,SoR.nil _ _ _ _ _ _ _ _ b0⟩
      case round=>
        clear b0 h0 h1;obtain⟨k,A,c,qs,o',rfl,hkn,h0,h1,R⟩:=hrel;by_cases hk:k<m
        · obtain⟨sb,so,hA,hy,h8⟩:=(h9.keep (R.M.f.below (λ_ _=>id) nL)).at_ i.d hk
          simp only[Si.sz,Si.rd,Qo]at h8;have s0:=h8 0 _ rfl;(try have s1:=h8 1 _ rfl);rw[Qa]at s0;have hw1:wrap64 ((k:Int)+1)=((k+1:Nat):Int):=by unfold wrap64;omega
          have h4:=zhd (λ(w:World) (o':Gh) (R:SoR i.d i.ec wo w o pt i.i0 i.et i.tp q k A c qs o') (w9:World) (g g2 cap:Nat) kg hg own f hat hb=>R.push (w9:=w9) (g:=g) (g2:=g2) (cap:=cap) kg hg own f hat hb);clear h8;generalize z6 i.d q k=x at*;rw[hA];go_upto_region 5 with fail
          first
            | (have _st:i.st=true:=rfl
               have b9:bW wr (wr.alloc (.cells (i.cl x) i.ct)):=by go_grown
               have h5:=Blk.new wr i.ct (i.cl x);generalize wr.alloc (.cells (i.cl x) i.ct)=w2 at*;obtain⟨gc,ha⟩:=aU wr.heap.size;rw[<- ha]at h5;rw[<- ha];clear ha;simp only[Si.cl]at h5;obtain⟨kcc,lcc⟩:=h5.cl;have R2:=R.go (Mv.below b9);replace h0:=h0.keep b9;replace h1:=h1.keep b9;have hnc:¬q02 A gc:=R2.row.1.1.ne h5 hd.out.2.1)
            | (have R2:=R
               obtain⟨w2,rfl⟩:=aU wr)
          obtain⟨krc,lrc⟩:=h1.cl;clear hA hy R;have hx:¬q02 A r2:=R2.row.1.1.ne h1 hd.out.1;refine q88 (q02 A) [(4,0),(0,0),(0,0),(1,2)] ?_;simp only[q03,tkO,dpO]
          refine aG ?_
          refine qwW (λU V=>?_);go_wp2_with fail;have hr:=(Zu w2.heap.size w2).drew;refine hM.out.mono ?_;rintro _ w3⟨g,rfl,kg,hg,h2⟩;replace h2:bW w2 w3:=hr.trans h2;replace hg:w2.heap.size<=g:=hg;refine zGW (fO h2 _) ?_;clear V U;intro U V;go_wp2_with fail;have h3:bW w2 (w3.alloc (.cells #[pp g] i.tp)):=h2.alloc h2.size _;have kx:=Blk.new w3 i.tp #[pp g];have hj:=kg.alloc (.cells #[pp g] i.tp);dsimp only[Si.tp]at h3 kx hj;refine zG (fO h3 _) ?_;clear V U;have hp:=R2.row.1.1.keep h3;refine qwW (λU V=>?_);refine q8a hE.out _ _ _ (by rfl) (by rfl) hp w3.heap.size #[pp g] rfl aE kx (by rfl) (by omega) ?_;intro g2 cap w9 hown9 hf9 hat9;have f9:=(fO h3 (q02 A)).trans hf9;have H0:=hj.fr hf9 (λh=>absurd (R2.row.1.1.lt h) (by omega));have hs:q02 A g2\/w2.heap.size<=g2:=hat9.imp id (λe=>by have:=h3.size;omega);have hb:g2≠g:=λe=>by
            have:=hj.lt;rcases hat9 with h|h
            · have:=R2.row.1.1.lt h;omega
            · omega
          have h6:=h1.fr f9 hx;have hn:=h0.fr f9 (R2.row.1.1.ne h0 hd.out.1);have kr9c:=h6.cell;have kr9f:=h6.frozen;have kr9l:=h6.lt;refine V _ _ rfl (q01 f9) ?_;clear V U;refine zN ?_;refine qwB (λU V=>?_);go_wp2_with fail;refine zE ?_;clear V U;go_wp2_with fail;obtain⟨o2,R9⟩:=h4.out _ _ R2 w9 g g2 cap H0 hg hown9 f9 hs hb;have mS:Fr (λj=>j=r2) w9 (w9.setCell ⟨r2,0,none⟩ (.slice (some ⟨g2,0,none⟩) (k+1) cap)):=(Fr.refl (λj=>j=r2) w9).setCell (p:=⟨r2,0,none⟩) (λ_=>rfl) _;exact⟨⟨k+1,_,cap,_,o2,by go_num,hk,hn.fr mS HR.out.1,h6.set_ 0 _,R9.setR HR.out.2.2 h6 hd.out.1 hd.out.2.2⟩,by simp[intOf];omega⟩
        · obtain rfl:k=m:=by omega
          have y1:=h0.cell;have y2:=h1.cell;have z1:=h0.frozen;have l1:=h0.lt;have hne:=HR.out.1;go_wp2_with fail;have H1:=h0.set_ 0 (.slice A k c);have y3:=H1.cell 0;exact Z_ (by simp[results,go_sem,y3,Tryz.results231,Tryz.results233,Tryz.results235,Tryz.results237]) rfl ⟨A,c,qs,o',rfl,R.setR HR.out.2.1 h0 hd.out.1 hd.out.2.2⟩):qkd F C et tp sz mo i0 mi ec rd d :=
  s i (zhd hE) (zhd λw A n c m h=>q4p hu hz w A n c m h) (zhd hm) hF hN (zhd hd)
theorem qys:qkc 232 405 (λ(x:Sm)=>.agg (Sm.lw x)) (λx=>#[ii x.first,ii x.most,ii x.first]):=by intro w x;refine zi ?_;go_wp2;go_returns;exact⟨_,rfl,by have:=Blk.new (w.alloc (.cells (Sm.lw x) 203)) 405 #[ii x.first,ii x.most,ii x.first];rwa [Z9]at this,zo,zv⟩
theorem qyt:qkd 231 232 405 406 2 4 0 4 (λx=>#[ii x.first,ii x.most,ii x.first]) z06.f qE :=
 qrv (⟨⟩:Si 203 326 405 406 2 4 0 4 true (λ(x:Sm)=>(Sm.lw x)) (λx=>#[ii x.first,ii x.most,ii x.first]) z06.f qE) (ps:=324) (ls:=48) (q1l (z := .pointer none) zk zk rfl zd zd) zk (λ_=>by kernel_rfl) qys Tryz.func231 Tryz.ntmps231
theorem qyu:qkc 234 4 (λ(x:Bool)=>.bool x) (λx=>#[.bool x]):=by intro w x;refine zi ?_;go_wp2;go_returns;exact⟨_,rfl,(Blk.new _ _ _),zo,zv⟩
theorem qyv:qkd 233 234 4 409 1 8 1 8 (λx=>#[.bool x]) (λ(x:Bool)=>[Value.bool x]) false :=
 qrv (⟨⟩:Si 4 329 4 409 1 8 1 8 false (λ(x:Bool)=>#[]) (λx=>#[.bool x]) (λ(x:Bool)=>[Value.bool x]) false) (ps:=327) (ls:=43) (q1l (z := .pointer none) zk zk rfl zd zd) zk (λ_=>by kernel_rfl) qyu Tryz.func233 Tryz.ntmps233
theorem qyw:qkc 236 413 (λ(x:Pl)=>.agg (Pl.lw x)) (λx=>#[ii x.size,ii x.depth,nS]):=by intro w x;refine zi ?_;go_wp2;go_returns;exact⟨_,rfl,by have:=Blk.new (w.alloc (.cells (Pl.lw x) 207)) 413 #[ii x.size,ii x.depth,nS];rwa [Z9]at this,zo,zv⟩
theorem qyx:qkd 235 236 413 414 2 4 2 4 (λx=>#[ii x.size,ii x.depth,nS]) z07.f qD :=
 qrv (⟨⟩:Si 207 332 413 414 2 4 2 4 true (λ(x:Pl)=>(Pl.lw x)) (λx=>#[ii x.size,ii x.depth,nS]) z07.f qD) (ps:=330) (ls:=49) (q1l (z := .pointer none) zk zk rfl zd zd) zk (λ_=>by kernel_rfl) qyw Tryz.func235 Tryz.ntmps235
theorem qyy:qkc 238 418 (λ(x:Int)=>ii x) (λx=>#[ii x,nS,.bool false]):=by intro w x;refine zi ?_;go_wp2;go_returns;exact⟨_,rfl,(Blk.new _ _ _),zo,zv⟩
theorem qyz:qkd 237 238 418 419 1 4 3 4 (λx=>#[ii x,nS,.bool false]) (λ(x:Int)=>[ii x]) (0:Int) :=
 qrv (⟨⟩:Si 3 335 418 419 1 4 3 4 false (λ(x:Int)=>#[]) (λx=>#[ii x,nS,.bool false]) (λ(x:Int)=>[ii x]) (0:Int)) (ps:=333) (ls:=29) (q1l (z := .pointer none) zk zk rfl zd zd) zk (λ_=>by kernel_rfl) qyy Tryz.func237 Tryz.ntmps237
theorem SoR.blw{α:Type}{d:α}{cell:α->Array Value}{o o':Gh}{i0:Nat}{t tp:TypeId}{q:List α}{k:Nat}{qs:List Nat}(R:SoR d cell wo w o pt i0 t tp q k A c qs o')(h:bW W wo):bW W w :=
 h.trans ((R.M.f.below (λ_ _=>id) nL).mono h.size)
structure SoF{α:Type}(d:α)(cell:α->Array Value)(w:World)(o:Gh)(pt i0:Nat)(t tp:TypeId)(q:List α)(x:Rx):Prop where
 row:qbj w o (.obs pt) tp x q.length
 el:∀i,i<q.length->q1t w o (.obj pt i0 i) (zg x.qs i) t (cell (z6 d q i))
theorem SoR.fin{α:Type}{d:α}{cell:α->Array Value}{o o':Gh}{i0:Nat}{t tp:TypeId}{q:List α}{qs:List Nat}(R:SoR d cell wo w o pt i0 t tp q q.length A c qs o'):SoF d cell w o' pt i0 t tp q ⟨A,c,qs⟩:=⟨R.row,R.el⟩
theorem SoF.step{α:Type}{d:α}{cell:α->Array Value}{o o':Gh}{i0:Nat}{t tp tb:TypeId}{q:List α}{x:Rx}{p:Nat}(R:SoF d cell w o pt i0 t tp q x)(f:Fr (λj=>j=p) w w')(a:∀j,j<w.heap.size->o' j=o j)(kp:Blk w p tb cs)(h1:tp≠tb)(h2:t≠tb):SoF d cell w' o' pt i0 t tp q x :=
 ⟨⟨⟨R.row.1.1.fr f (λj hj e=>R.row.1.1.ne kp h1 (by rw[<- e];exact hj)),λj hj=>(a j (R.row.1.1.lt hj)).trans (R.row.1.2 j hj)⟩,R.row.2⟩,λi hi=>⟨(R.el i hi).1.fr f (λe=>(R.el i hi).1.ne kp h2 e),(a _ (R.el i hi).1.lt).trans (R.el i hi).2⟩⟩
theorem q6w{α β:Type}(d:α)(d':β)(f:α->β)(l:List α){i:Nat}(h:i<l.length):z6 d' (l.map f) i=f (z6 d l i):=by rw[q0s (by simpa using h),q0s h,QC]
theorem qnz:(Tryz.prog.info? 4).map (λi=>(i.zero,i.size,i.bytes))=some (some (.bool false),1,1):=zk
theorem qvu:Tryz.prog.underlying 43=some (.slice 4):=zk
theorem q9e{α β:Type}(f:α->β):∀l:List α,l.flatMap (λx=>[f x])=l.map f
 |[]=>rfl
 |a::r=>by rw[Ql,q9e f r];rfl
theorem z0q{l:List Int}(h:zI w A n c l):zx w A n c 1 (λ(x:Int)=>[ii x]) l:=⟨by rw[q9e];exact h.1,h.2.1,λ_ _=>rfl⟩
theorem qvv{g:Nat}(h:Blk w g 4 (madeCells #[.bool false] m))(hm:m<=8):zx w (some ⟨g,0,none⟩) m m 1 (λ(x:Bool)=>[Value.bool x]) (List.replicate m false):=by rw[Me.made_one]at h;refine⟨⟨by rw[q9e];simp,nL,by unfold maxLen;omega,(λe=>by cases e),λ_=>⟨g,0,rfl,h.lt,λj u hu=>?_⟩⟩,zp,λ_ _=>rfl⟩;rw[q9e,List.map_replicate]at hu;rw[Zp,h.cell j,<- X4,Array.toList_replicate];exact hu
theorem qbw{o:Gh}{p:Nat}{cf:Pt}{a1 a2 a3 a4:Option Addr}{n1 n2 n3 n4 c1 c2 c3 c4:Nat}(hcf:qcu.ok W cf)(hW:bW W w)(hp:W.heap.size<=p)(hdp:∀c∈cf.pools.l,c.depth<=1000)
 (K:q1t w o (.obs pt) p 337 #[cf.regs.v,cf.procs.v,cf.ports.v,cf.sems.v,ii cf.flags,cf.pools.v,cf.slates.v,ii cf.cap,ii cf.bud,ii cf.lad,cf.acts.v,.slice a1 n1 c1,.slice a2 n2 c2,.slice a3 n3 c3,.slice a4 n4 c4]) :
  cP 178 #[pp p] w λe w'=>e=.returned (.tuple #[])/\∃o' x',Mv (λy=>y=.obs pt) o w o' w'/\ObR w' o' pt p cf x' (q4r cf):=by have kc:∀i,w.cell? ⟨p,i,none⟩ = #[cf.regs.hq,cf.procs.hq,cf.ports.hq,cf.sems.hq,ii cf.flags,cf.pools.hq,cf.slates.hq,ii cf.cap,ii cf.bud,ii cf.lad,cf.acts.hq,.slice a1 n1 c1,.slice a2 n2 c2,.slice a3 n3 c3,.slice a4 n4 c4][i]?:=K.1.cell;have kf:=K.1.frozen;have lt:=K.1.lt;obtain⟨m,hm⟩:=aU ((max 0 (min cf.flags 8)).toNat);have hm8:m<=8:=zo;have hmk:=run_make_row' (P:=Tryz.prog) 43 4 (.bool false) 1 qvu qnz rfl .i64 .i64 m zo zo;have hmx:max 0 (min cf.flags 8)=(m:Int):=zo;have HM:=zhd hm;clear hm;refine zi ?_;go_wp2_with fail;have kq:=Blk.new w 51 (Pt.lw cf);have b1:bW w (w.alloc (.cells (Pt.lw cf) 51)):=zv;replace K:=K.go (L:=λ_=>False) (Mv.below b1) id;have M1:Mv (λy=>y=.obs pt) o w o (w.alloc (.cells (Pt.lw cf) 51)):=Mv.below b1;have h0:bW W (w.alloc (.cells (Pt.lw cf) 51)):=hW.alloc hW.size _;generalize w.alloc (.cells (Pt.lw cf) 51)=w1 at*;obtain⟨q,hq⟩:=aU w.heap.size;have HQ:Hid (p≠q/\W.heap.size<=q):=by{have:=hW.size;show _/\_;omega};rw[<- hq]at kq;rw[<- hq];clear hq kc kf lt b1;have hc:=HQ.out.1;have h1:¬q=p:=λe=>hc e.symm;refine(qyt (o:=o) (pt:=pt) (qb7.keep hcf.2.2.2.1 h0).1).mono ?_;rintro _ v1⟨B1,h2,q1,o1,rfl,R1⟩;have hb:=R1.M.f.below (λ_ _=>id) nL;have U:=K.go R1.M id;replace kq:=kq.keep hb;replace M1:=M1.trans (R1.M.mono λ_ h=>h.elim);replace h0:=h0.trans (hb.mono h0.size);replace K:=U;clear U hb;replace R1:=R1.fin;generalize hz:(cf.sems.l.take 4).length=z1 at*;have h7:=zhd hz;clear hz;have kf:=K.1.frozen;obtain⟨kc,lp⟩:=K.1.cl;obtain⟨qc,lq⟩:=kq.cl;go_wp2_with fail;have fS:Fr (λj=>j=p) v1 (v1.setCell ⟨p,11,none⟩ (.slice B1 z1 h2)):=(Fr.refl (λj=>j=p) v1).setCell (p:=⟨p,11,none⟩) (λ_=>rfl) _;replace M1:=M1.trans (Mv.of (L:=λy=>y=.obs pt) (o:=o1) fS (λj hj=>by rw[hj];exact K.2));replace R1:=R1.step (p:=p) fS (λ_ _=>rfl) K.1 zd zd;replace K:=K.set 11 (.slice B1 z1 h2);replace kq:=kq.fr fS h1;replace h0:=h0.setCell (p:=⟨p,11,none⟩) hp (.slice B1 z1 h2);clear kf kc lp qc lq fS;have HS:=zhd (show(v1.setCell ⟨p,11,none⟩ (.slice B1 z1 h2)).heap.size=v1.heap.size by simp);generalize v1.setCell ⟨p,11,none⟩ (.slice B1 z1 h2)=w2 at*;have kx:=Blk.new w2 4 (madeCells #[.bool false] m);have bx:bW w2 (w2.alloc (.cells (madeCells #[.bool false] m) 4)):=zv;have ha:zx (w2.alloc (.cells (madeCells #[.bool false] m) 4)) (some ⟨v1.heap.size,0,none⟩) m m 1 (λ(x:Bool)=>[Value.bool x]) (List.replicate m false):=qvv (HS.out ▸ kx) zo;replace R1:=R1.step (p:=p) (fO bx _) (λ_ _=>rfl) K.1 zd zd;replace K:=K.go (L:=λ_=>False) (Mv.below bx) id;replace kq:=kq.keep bx;replace M1:=M1.trans (Mv.below (L:=λy=>y=.obs pt) (o:=o1) bx);replace h0:=h0.trans (bx.mono h0.size);generalize w2.alloc (.cells (madeCells #[.bool false] m) 4)=wX at*;clear kx bx;refine(qyv (o:=o1) (pt:=pt) ha).mono ?_;rintro _ v2⟨B2,h3,q2,o2,rfl,R2⟩;have hb:=R2.M.f.below (λ_ _=>id) nL;have U:=K.go R2.M id;replace kq:=kq.keep hb;replace M1:=M1.trans (R2.M.mono λ_ h=>h.elim);replace h0:=h0.trans (hb.mono h0.size);replace R1:=R1.step (p:=p) (fO hb _) R2.M.a K.1 zd zd;replace K:=U;clear U hb;replace R2:=R2.fin;generalize hz:((List.replicate m false).take 8).length=z2 at*;have h6:=zhd hz;clear hz;have kf:=K.1.frozen;obtain⟨kc,lp⟩:=K.1.cl;obtain⟨qc,lq⟩:=kq.cl;go_wp2_with fail;have fS:Fr (λj=>j=p) v2 (v2.setCell ⟨p,12,none⟩ (.slice B2 z2 h3)):=(Fr.refl (λj=>j=p) v2).setCell (p:=⟨p,12,none⟩) (λ_=>rfl) _;replace M1:=M1.trans (Mv.of (L:=λy=>y=.obs pt) (o:=o2) fS (λj hj=>by rw[hj];exact K.2));replace R1:=R1.step (p:=p) fS (λ_ _=>rfl) K.1 zd zd;replace R2:=R2.step (p:=p) fS (λ_ _=>rfl) K.1 zd zd;replace K:=K.set 12 (.slice B2 z2 h3);replace kq:=kq.fr fS h1;replace h0:=h0.setCell (p:=⟨p,12,none⟩) hp (.slice B2 z2 h3);clear kf kc lp qc lq fS;generalize v2.setCell ⟨p,12,none⟩ (.slice B2 z2 h3)=w3 at*;refine(qyx (o:=o2) (pt:=pt) (qb8.keep hcf.2.2.2.2.2.1 h0).1).mono ?_;rintro _ v3⟨B3,h4,q3,o3,rfl,R3⟩;have hb:=R3.M.f.below (λ_ _=>id) nL;have U:=K.go R3.M id;replace kq:=kq.keep hb;replace M1:=M1.trans (R3.M.mono λ_ h=>h.elim);replace h0:=h0.trans (hb.mono h0.size);replace R1:=R1.step (p:=p) (fO hb _) R3.M.a K.1 zd zd;replace R2:=R2.step (p:=p) (fO hb _) R3.M.a K.1 zd zd;replace K:=U;clear U hb;replace R3:=R3.fin;generalize hz:(cf.pools.l.take 4).length=z3 at*;have h8:=zhd hz;clear hz;have kf:=K.1.frozen;obtain⟨kc,lp⟩:=K.1.cl;obtain⟨qc,lq⟩:=kq.cl;go_wp2_with fail;have fS:Fr (λj=>j=p) v3 (v3.setCell ⟨p,13,none⟩ (.slice B3 z3 h4)):=(Fr.refl (λj=>j=p) v3).setCell (p:=⟨p,13,none⟩) (λ_=>rfl) _;replace M1:=M1.trans (Mv.of (L:=λy=>y=.obs pt) (o:=o3) fS (λj hj=>by rw[hj];exact K.2));replace R1:=R1.step (p:=p) fS (λ_ _=>rfl) K.1 zd zd;replace R2:=R2.step (p:=p) fS (λ_ _=>rfl) K.1 zd zd;replace R3:=R3.step (p:=p) fS (λ_ _=>rfl) K.1 zd zd;replace K:=K.set 13 (.slice B3 z3 h4);replace kq:=kq.fr fS h1;replace h0:=h0.setCell (p:=⟨p,13,none⟩) hp (.slice B3 z3 h4);clear kf kc lp qc lq fS;generalize v3.setCell ⟨p,13,none⟩ (.slice B3 z3 h4)=w4 at*;refine(qyz (o:=o3) (pt:=pt) (z0q (q1f.keep hcf.2.2.2.2.2.2.1 h0))).mono ?_;rintro _ v4⟨B4,h5,q4,o4,rfl,R4⟩;have hb:=R4.M.f.below (λ_ _=>id) nL;have U:=K.go R4.M id;replace kq:=kq.keep hb;replace M1:=M1.trans (R4.M.mono λ_ h=>h.elim);replace h0:=h0.trans (hb.mono h0.size);replace R1:=R1.step (p:=p) (fO hb _) R4.M.a K.1 zd zd;replace R2:=R2.step (p:=p) (fO hb _) R4.M.a K.1 zd zd;replace R3:=R3.step (p:=p) (fO hb _) R4.M.a K.1 zd zd;replace K:=U;clear U hb;replace R4:=R4.fin;generalize hz:(cf.slates.l.take 4).length=z4 at*;have h9:=zhd hz;clear hz;have kf:=K.1.frozen;obtain⟨kc,lp⟩:=K.1.cl;obtain⟨qc,lq⟩:=kq.cl;go_wp2_with fail;have fS:Fr (λj=>j=p) v4 (v4.setCell ⟨p,14,none⟩ (.slice B4 z4 h5)):=(Fr.refl (λj=>j=p) v4).setCell (p:=⟨p,14,none⟩) (λ_=>rfl) _;replace M1:=M1.trans (Mv.of (L:=λy=>y=.obs pt) (o:=o4) fS (λj hj=>by rw[hj];exact K.2));replace R1:=R1.step (p:=p) fS (λ_ _=>rfl) K.1 zd zd;replace R2:=R2.step (p:=p) fS (λ_ _=>rfl) K.1 zd zd;replace R3:=R3.step (p:=p) fS (λ_ _=>rfl) K.1 zd zd;replace R4:=R4.step (p:=p) fS (λ_ _=>rfl) K.1 zd zd;replace K:=K.set 14 (.slice B4 z4 h5);replace kq:=kq.fr fS h1;replace h0:=h0.setCell (p:=⟨p,14,none⟩) hp (.slice B4 z4 h5);clear kf kc lp qc lq fS;go_returns;generalize v4.setCell ⟨p,14,none⟩ (.slice B4 z4 h5)=w' at*;have e2:(List.replicate m false).take 8=List.replicate m false:=Zs aO;have e3:(q4r cf).flags=List.replicate m false:=by{unfold q4r;rw[<- HM.out]};rw[e2,<- e3]at R2 h6;have l1:(q4r cf).sems.length=(cf.sems.l.take 4).length:=Zh _;have l3:(q4r cf).pools.length=(cf.pools.l.take 4).length:=Zh _;have l4:(q4r cf).slates.length=(cf.slates.l.take 4).length:=Zh _;refine⟨rfl,o4,⟨⟨B1,h2,q1⟩,⟨B2,h3,q2⟩,⟨B3,h4,q3⟩,⟨B4,h5,q4⟩⟩,M1,?_,by rw[l1];exact R1.row,R2.row,by rw[l3];exact R3.row,by rw[l4];exact R4.row,λi hi=>?_,λi hi=>R2.el i hi,λi hi=>?_,λi hi=>?_⟩;{rw[l1,l3,l4,h7.out,h6.out,h8.out,h9.out];exact K};{rw[l1]at hi;have:=R1.el i hi;rwa [show z6 qn (q4r cf).sems i=⟨z6 qE (cf.sems.l.take 4) i,(z6 qE (cf.sems.l.take 4) i).first⟩ from q6w qE qn (λc=>(⟨c,c.first⟩:Se)) _ hi]};{rw[l3]at hi;have:=R3.el i hi;rw[show z6 qi (q4r cf).pools i=⟨z6 qD (cf.pools.l.take 4) i,[]⟩ from q6w qD qi (λc=>(⟨c,[]⟩:Pq)) _ hi];exact⟨none,0,[],this,⟨zj.nil _ _ _,(λk hk=>by cases hk)⟩,rfl,(λh hh=>by cases hh),Za _,hdp _ (ZV (q0h (d:=qD) hi)),(λb hb=>by cases hb)⟩};{rw[l4]at hi;have:=R4.el i hi;rw[show z6 qp (q4r cf).slates i=⟨z6 (0:Int) (cf.slates.l.take 4) i,[],false⟩ from q6w (0:Int) qp (λn=>(⟨n,[],false⟩:Sa)) _ hi];exact⟨⟨none,0,[]⟩,this,rfl,j9.nil,zp⟩}
theorem qrw{o:Gh}{cf:Pt}(hcf:qcu.ok W cf)(hW:bW W w)(hdp:∀c∈cf.pools.l,c.depth<=1000):
  cP 117 #[.agg (Pt.lw cf)] w λe w'=>∃p o' x',e=.returned (pp p)/\Mv (λy=>y=.obs pt) o w o' w'/\ObR w' o' pt p cf x' (q4r cf):=by have b1:bW w ((w.alloc (.cells (Pt.lw cf) 51)).alloc (.cells #[cf.regs.hq,cf.procs.hq,cf.ports.hq,cf.sems.hq,ii cf.flags,cf.pools.hq,cf.slates.hq,ii cf.cap,ii cf.bud,ii cf.lad,cf.acts.hq,nS,nS,nS,nS] 337)):=zv;have kp:=Blk.new (w.alloc (.cells (Pt.lw cf) 51)) 337 #[cf.regs.hq,cf.procs.hq,cf.ports.hq,cf.sems.hq,ii cf.flags,cf.pools.hq,cf.slates.hq,ii cf.cap,ii cf.bud,ii cf.lad,cf.acts.hq,nS,nS,nS,nS];rw[Z9]at kp;have hp:W.heap.size<=w.heap.size+1:=by{have:=hW.size;omega};have M1:Mv (λ_=>False) o w (lay w o (.obs pt)) _:=Mv.lay (S:=λ_=>False) (.obs pt) (fO b1 _) (λ_ _ h=>h.elim);have hC:=qbw (o:=lay w o (.obs pt)) (pt:=pt) hcf (bt hW b1) hp hdp ⟨kp,q07 (XM _)⟩;refine zi ?_;go_wp2_with(go_fit hC;rintro _ w2⟨rfl,o',x',m,R⟩);go_returns;refine⟨_,o',x',rfl,?_,R⟩;exact(M1.mono λ_ h=>h.elim).trans m
def qX(w:World)(g:Nat)(acts:List Int):Prop:=∃(c:Nat->Int) (x p:Int),Blk w g 342 (mc (q9b acts) c x p)
theorem qX.fr{S:Nat->Prop}{g:Nat}{a:List Int}(h:qX w g a)(hf:Fr S w w')(hg:¬S g):qX w' g a:=by obtain⟨c,x,p,h⟩:=h;exact⟨c,x,p,h.fr hf hg⟩
theorem qX.lt{g:Nat}{a:List Int}(h:qX w g a):g<w.heap.size:=by obtain⟨c,x,p,h⟩:=h;exact h.lt
def qxa(w:World)(o:Gh)(h:Hd St):Prop:=zx w h.A h.l.length h.c 6 St.f h.l/\(∀x∈h.l,x.ok)/\∀b f,0<h.l.length->h.A=some ⟨b,f,none⟩->o b=.data
theorem zx.lt_{α:Type}{sz:Nat}{f:α->List Value}{l:List α}(h:zx w A n c sz f l)(hn:0<n){g o:Nat}(e:A=some ⟨g,o,none⟩):g<w.heap.size:=by obtain⟨b,o',e',hb,_⟩:=h.1.at_ hn;rw[e]at e';cases e';exact hb
section
variable{L:Lb->Prop}{o o':Gh}{w w':World}
theorem qxa.go{h:Hd St}(H:qxa w o h)(m:Mv L o w o' w')(hl:¬L .data):qxa w' o' h :=
 ⟨H.1.fr m.f λb f hn e=>by rw[H.2.2 b f hn e];exact hl,H.2.1,λb f hn e=>(m.a b (H.1.lt_ hn e)).trans (H.2.2 b f hn e)⟩
structure TkR(w:World)(o:Gh)(l:Lb)(q:Nat)(hp:Hd St)(hd:Hd UInt8)(x:Tk):Prop where
 k:q1t w o l q 259 #[hp.v,ii x.at_,ii x.rest,ii x.addr,hd.v,.bool x.done]
 p:qxa w o hp
 pl:hp.l=x.prog
 d:j9 w o hd
 dl:hd.l=x.data
 at_:x.at_<x.prog.length
 n:x.prog.length<=1000
 a:i64 x.addr
 dn:x.data.length<=1000
theorem TkR.go{l:Lb}{hp:Hd St}{hd:Hd UInt8}{x:Tk}(h:TkR w o l q hp hd x)(m:Mv L o w o' w')(hl:¬L l)(hdt:¬L .data):TkR w' o' l q hp hd x:=⟨h.k.go m hl,h.p.go m hdt,h.pl,h.d.go m hdt,h.dl,h.at_,h.n,h.a,h.dn⟩
end
structure Cx where
 tr:Rx
 t:Nat
 mb:Nat
 g:Nat
 B:Nat
 mA:Option Addr
 mc:Nat
 PQ:List (Nat×Nat)
 p:Nat
 pA:Option Addr
 pc:Nat
 pq:List Nat
 ob:Nat
 ox:Ox
 m:Nat
 s:Option Nat
 sa:Nat
 sc:Nat
 sq:List Nat
 eA:Option Addr
 ec:Nat
def Cx.cells(x:Cx)(s:Ce):Array Value:=#[s.cf.regs.v,s.cf.procs.v,s.cf.ports.v,s.cf.sems.v,ii s.cf.flags,s.cf.pools.v,s.cf.slates.v,ii s.cf.cap,ii s.cf.bud,ii s.cf.lad,s.cf.acts.v,ii s.part,ii s.mode,ii s.win,.slice x.tr.A s.tk.length x.tr.c,pp x.t,pp x.g,pp x.p,pp x.ob,pp x.m,.pointer (x.s.map λb=>⟨b,0,none⟩),.slice x.eA s.evs.length x.ec]
section
variable{L:Lb->Prop}{o o':Gh}{w w':World}
def xm(w:World)(o:Gh)(pt t mb:Nat)(l:List Rw)(tn:Int):Prop:=TbR w t mb l tn/\o t=.tab pt/\o mb=.tab pt
theorem xm.go{t:Nat}{l:List Rw}{tn:Int}(h:xm w o pt t mb l tn)(m:Mv L o w o' w')(hl:¬L (.tab pt)):xm w' o' pt t mb l tn :=
 ⟨h.1.fr m.f (by rw[h.2.1];exact hl) (by rw[h.2.2];exact hl),(m.a t h.1.kt.lt).trans h.2.1,(m.a mb h.1.km.lt).trans h.2.2⟩
theorem xm.mv{t:Nat}{l:List Rw}{tn:Int}(h:xm w o pt t mb l tn)(f:Fr (qw t mb) w w'):Mv (λy=>y=.tab pt) o w o w':=Mv.of f λk hk=>by rcases hk with rfl|rfl;exact h.2.1;exact h.2.2
def xt(w:World)(o:Gh)(pt g B:Nat)(A:Option Addr)(c:Nat)(PQ:List (Nat×Nat))(Ss:List Me.Sg)(Bs:List (List UInt8)):Prop:=Me.MemX w g B A c PQ Ss Bs/\o g=.mem pt/\(∀b f,0<Ss.length->A=some ⟨b,f,none⟩->o b=.mem pt)/\∀i,i<Ss.length->o (z6 (0,0) PQ i).1=.mem pt/\o (z6 (0,0) PQ i).2=.mem pt
theorem MemX.fr'{S:Nat->Prop}{g:Nat}{PQ:List (Nat×Nat)}{Ss:List Me.Sg}{Bs:List (List UInt8)}(h:Me.MemX w g B A c PQ Ss Bs)(hf:Fr S w w')(h1:¬S g)(h2:∀b f,0<Ss.length->A=some ⟨b,f,none⟩->¬S b)(h3:∀i,i<Ss.length->¬S (z6 (0,0) PQ i).1/\¬S (z6 (0,0) PQ i).2):Me.MemX w' g B A c PQ Ss Bs:=by obtain⟨a1,a2,a3,a4,a5,a6,a7,a8,a9⟩:=h;refine⟨a1.fr hf h1,zx.fr a2 hf (λb f hn e=>h2 b f hn e),a3,a4,Zb a5 hf.size,a6,a7,λi hi=>?_,a9⟩;obtain⟨b1,b2,b3⟩:=a8 i hi;exact⟨b1.fr hf (h3 i hi).1,b2.fr hf (h3 i hi).2,b3⟩
theorem xt.go{g:Nat}{PQ:List (Nat×Nat)}{Ss:List Me.Sg}{Bs:List (List UInt8)}(h:xt w o pt g B A c PQ Ss Bs)(m:Mv L o w o' w')(hl:¬L (.mem pt)):xt w' o' pt g B A c PQ Ss Bs:=by obtain⟨h1,h2,h3,h4⟩:=h;refine⟨MemX.fr' h1 m.f (by rw[h2];exact hl) (λb f hn e=>by rw[h3 b f hn e];exact hl) (λi hi=>by rw[(h4 i hi).1,(h4 i hi).2];exact⟨hl,hl⟩),(m.a g h1.1.lt).trans h2,λb f hn e=>(m.a b (h1.2.1.lt_ hn e)).trans (h3 b f hn e),λi hi=>?_⟩;obtain⟨b1,b2,b3⟩:=h1.2.2.2.2.2.2.2.1 i hi;exact⟨(m.a _ b1.lt).trans (h4 i hi).1,(m.a _ b2.lt).trans (h4 i hi).2⟩
theorem xt.mv{g:Nat}{PQ:List (Nat×Nat)}{Ss:List Me.Sg}{Bs:List (List UInt8)}(h:xt w o pt g B A c PQ Ss Bs)(f:Fr (Me.QS PQ Ss.length) w w'):Mv (λy=>y=.mem pt) o w o w':=Mv.of f λk hk=>by obtain⟨i,hi,rfl⟩:=hk;exact(h.2.2.2 i hi).2
def xk(w:World)(o:Gh)(pt b a cap:Nat)(qs:List Nat)(y:Sk):Prop:=SkR w b a cap qs y/\o b=.slk pt/\a<w.heap.size/\o a=.slk pt/\∀k,k∈qs->o k=.slk pt
theorem xk.go{a:Nat}{qs:List Nat}{y:Sk}(h:xk w o pt b a cap qs y)(m:Mv L o w o' w')(hl:¬L (.slk pt)):xk w' o' pt b a cap qs y:=by obtain⟨h1,h2,h3,h4,h5⟩:=h;have hq:=h1.old.2.2;exact⟨h1.fr m.f (by rw[h2];exact hl) (by rw[h4];exact hl) (λk hk=>by rw[h5 k hk];exact hl),(m.a b h1.ks.lt).trans h2,Zg h3 m.f.size,(m.a a h3).trans h4,λk hk=>(m.a k (hq k hk)).trans (h5 k hk)⟩
theorem xk.mv{a:Nat}{qs:List Nat}{y:Sk}(h:xk w o pt b a cap qs y)(f:Fr (xX b qs) w w'):Mv (λy=>y=.slk pt) o w o w':=Mv.of f λk hk=>by rcases hk with rfl|hk;exact h.2.1;exact h.2.2.2.2 k hk
def xH(w:World)(o:Gh)(pt g:Nat)(acts:List Int):Prop:=qX w g acts/\o g=.mon pt
theorem xH.go{g:Nat}{a:List Int}(h:xH w o pt g a)(m:Mv L o w o' w')(hl:¬L (.mon pt)):xH w' o' pt g a:=⟨h.1.fr m.f (by rw[h.2];exact hl),(m.a g h.1.lt).trans h.2⟩
end
def qL(w:World)(o:Gh)(pt:Nat)(x:Cx)(y:Option Sk):Prop:=(y=none/\x.s=none)\/∃z b,y=some z/\x.s=some b/\xk w o pt b x.sa x.sc x.sq z
theorem qL.go{L:Lb->Prop}{o o':Gh}{x:Cx}{y:Option Sk}(h:qL w o pt x y)(m:Mv L o w o' w')(hl:¬L (.slk pt)):qL w' o' pt x y:=by rcases h with h|⟨z,b,h1,h2,h3⟩;{exact .inl h};{exact .inr ⟨z,b,h1,h2,h3.go m hl⟩}
structure CeR(w:World)(o:Gh)(pt c:Nat)(x:Cx)(s:Ce):Prop where
 k:q1t w o (.cell pt) c 255 (x.cells s)
 tr:qbj w o (.tks pt) 256 x.tr s.tk.length
 tk:∀i,i<s.tk.length->∃hp hd,TkR w o (.task pt i) (zg x.tr.qs i) hp hd (z6 za s.tk i)
 tb:xm w o pt x.t x.mb s.tab s.tn
 me:xt w o pt x.g x.B x.mA x.mc x.PQ s.segs s.bs
 ps:PsR w o pt x.p x.pA x.pc x.pq s.pts
 ob:ObR w o pt x.ob s.cf x.ox s.obs
 mn:xH w o pt x.m s.cf.acts.l
 sk:qL w o pt x s.slk
 ev:q4q w o (.evs pt) 67 6 x.eA s.evs.length x.ec (s.evs.flatMap Ev.f)
def xP(w:World)(o:Gh)(pt c p:Nat)(s:Ce):Prop:=∃x:Cx,x.p=p/\CeR w o pt c x s
def zb(pt:Nat):Lb->Prop:=λl=>l.part=some pt
section
variable{L:Lb->Prop}{o o':Gh}{w w':World}{pt c:Nat}{x:Cx}{s:Ce}(R:CeR w o pt c x s)
include R
theorem CeR.go(m:Mv L o w o' w')(hl:∀l,L l->l.part≠some pt)(hd:¬L .data):CeR w' o' pt c x s:=by have h:∀l:Lb,l.part=some pt->¬L l:=λl e h=>hl l h e;exact⟨R.k.go m (h _ rfl),R.tr.go m (h _ rfl),λi hi=>by obtain⟨hp,h0,T⟩:=R.tk i hi;exact⟨hp,h0,T.go m (h _ rfl) hd⟩,R.tb.go m (h _ rfl),R.me.go m (h _ rfl),R.ps.go m (h _ rfl) (λ_=>h _ rfl) (λ_=>h _ rfl) hd,R.ob.go m (h _ rfl) (λ_ _=>h _ rfl) hd,R.mn.go m (h _ rfl),qL.go R.sk m (h _ rfl),R.ev.go m (h _ rfl)⟩
theorem CeR.blw(hb:bW w w'):CeR w' o pt c x s:=R.go (L:=λ_=>False) (Mv.below hb) (λ_ h=>h.elim) id
theorem CeR.setTk{k:Nat}{t:Tk}{hp:Hd St}{hd:Hd UInt8}(hk:k<s.tk.length)(m:Mv (λy=>y=.task pt k) o w o' w')(T:TkR w' o' (.task pt k) (zg x.tr.qs k) hp hd t):CeR w' o' pt c x (q1d s k t):=by have hL:(s.tk.set k t).length=s.tk.length:=Zd;refine⟨?_,?_,λi hi=>?_,R.tb.go m zp,R.me.go m zp,R.ps.go m zp zp zp zp,R.ob.go m zp zp zp,R.mn.go m zp,qL.go R.sk m zp,R.ev.go m zp⟩;{have:=R.k.go m zp;unfold Cx.cells q1d;rw[hL];exact this};{show qbj _ _ _ _ _ (s.tk.set k t).length;rw[hL];exact R.tr.go m zp};{have h1:i<s.tk.length:=by{rw[<- hL];exact hi};show ∃hp hd,TkR w' o' _ _ hp hd (z6 za (s.tk.set k t) i);rw[Me.atD_set _ _ _ _ _ hk];by_cases q:i=k;{subst q;rw[Z1 rfl];exact⟨hp,hd,T⟩};{rw[Z0 q];obtain⟨h2,h0,T'⟩:=R.tk i h1;exact⟨h2,h0,T'.go m (by simpa using q) zp⟩}}
theorem CeR.setTab{l:List Rw}{tn:Int}(m:Mv (λy=>y=.tab pt) o w o' w')(T:TbR w' x.t x.mb l tn):CeR w' o' pt c x {s with tab:=l,tn:=tn} :=
 ⟨R.k.go m zp,R.tr.go m zp,λi hi=>by obtain⟨hp,hd,T⟩:=R.tk i hi;exact⟨hp,hd,T.go m zp zp⟩,⟨T,(m.a _ R.tb.1.kt.lt).trans R.tb.2.1,(m.a _ R.tb.1.km.lt).trans R.tb.2.2⟩,R.me.go m zp,R.ps.go m zp zp zp zp,R.ob.go m zp zp zp,R.mn.go m zp,qL.go R.sk m zp,R.ev.go m zp⟩
theorem CeR.setMem{bs:List (List UInt8)}(m:Mv (λy=>y=.mem pt) o w o w')(T:Me.MemX w' x.g x.B x.mA x.mc x.PQ s.segs bs):CeR w' o pt c x {s with bs:=bs} :=
 ⟨R.k.go m zp,R.tr.go m zp,λi hi=>by obtain⟨hp,hd,T⟩:=R.tk i hi;exact⟨hp,hd,T.go m zp zp⟩,R.tb.go m zp,⟨T,R.me.2⟩,R.ps.go m zp zp zp zp,R.ob.go m zp zp zp,R.mn.go m zp,qL.go R.sk m zp,R.ev.go m zp⟩
theorem CeR.setPts{l:List Ps}(m:Mv (zK pt) o w o' w')(T:PsR w' o' pt x.p x.pA x.pc x.pq l):CeR w' o' pt c x {s with pts:=l} :=
 ⟨R.k.go m (by simp[zK,q9]),R.tr.go m (by simp[zK,q9]),λi hi=>by obtain⟨hp,hd,T⟩:=R.tk i hi;exact⟨hp,hd,T.go m (by simp[zK,q9]) (by simp[zK,q9])⟩,R.tb.go m (by simp[zK,q9]),R.me.go m (by simp[zK,q9]),T,R.ob.go m (by simp[zK,q9]) (by simp[zK,q9]) (by simp[zK,q9]),R.mn.go m (by simp[zK,q9]),qL.go R.sk m (by simp[zK,q9]),R.ev.go m (by simp[zK,q9])⟩
theorem CeR.setObs{y:Ob}{z:Ox}(m:Mv (zJ pt) o w o' w')(T:ObR w' o' pt x.ob s.cf z y):CeR w' o' pt c {x with ox:=z} {s with obs:=y} :=
 ⟨R.k.go m (by simp[zJ]),R.tr.go m (by simp[zJ]),λi hi=>by obtain⟨hp,hd,T⟩:=R.tk i hi;exact⟨hp,hd,T.go m (by simp[zJ]) (by simp[zJ])⟩,R.tb.go m (by simp[zJ]),R.me.go m (by simp[zJ]),R.ps.go m (by simp[zJ]) (by simp[zJ]) (by simp[zJ]) (by simp[zJ]),T,R.mn.go m (by simp[zJ]),qL.go R.sk m (by simp[zJ]),R.ev.go m (by simp[zJ])⟩
theorem CeR.setMon(m:Mv (λy=>y=.mon pt) o w o w')(T:qX w' x.m s.cf.acts.l):CeR w' o pt c x s :=
 ⟨R.k.go m zp,R.tr.go m zp,λi hi=>by obtain⟨hp,hd,T⟩:=R.tk i hi;exact⟨hp,hd,T.go m zp zp⟩,R.tb.go m zp,R.me.go m zp,R.ps.go m zp zp zp zp,R.ob.go m zp zp zp,⟨T,R.mn.2⟩,qL.go R.sk m zp,R.ev.go m zp⟩
theorem CeR.setSk{y z:Sk}(h1:s.slk=some y)(h2:x.s=some b)(m:Mv (λy=>y=.slk pt) o w o w')(T:SkR w' b x.sa x.sc x.sq z):CeR w' o pt c x {s with slk:=some z}:=by have hS:xk w' o pt b x.sa x.sc x.sq z:=by{rcases R.sk with⟨h,_⟩|⟨z',b',e1,e2,h⟩;{rw[h]at h1;cases h1};{rw[e2]at h2;cases h2;exact⟨T,h.2.1,Zg h.2.2.1 m.f.size,h.2.2.2⟩}};exact⟨R.k.go m zp,R.tr.go m zp,λi hi=>by obtain⟨hp,hd,T⟩:=R.tk i hi;exact⟨hp,hd,T.go m zp zp⟩,R.tb.go m zp,R.me.go m zp,R.ps.go m zp zp zp zp,R.ob.go m zp zp zp,R.mn.go m zp,.inr ⟨z,b,rfl,h2,hS⟩,R.ev.go m zp⟩
end
def qJ(w:World)(o:Gh)(pt c p:Nat)(s:Ce)(v:Value)(e:Ending)(w':World):Prop:=e=.returned v/\∃o',Mv (zb pt) o w o' w'/\xP w' o' pt c p s
structure Bas(W w:World)(o:Gh):Prop where
 b:bW W w
 l:∀k,k<W.heap.size->o k=.free
theorem Bas.go{L:Lb->Prop}{o o':Gh}(h:Bas W w o)(m:Mv L o w o' w')(hl:¬L .free):Bas W w' o' :=
 ⟨h.b.trans (m.f.below (λk hk hs=>hl (by rw[h.l k hk]at hs;exact hs)) h.b.size),λk hk=>(m.a k (Zg hk h.b.size)).trans (h.l k hk)⟩
end Go.Proofs.YtncfcbohiodnnaaGreat
