/- Parts of this seat's claims. -/
import Derived.Test.YtncfcbohiodnnaaGreatW24
set_option maxRecDepth 100000
set_option maxHeartbeats 6400000
namespace Go.Proofs.YtncfcbohiodnnaaGreat
open Go.RowKit
variable{w w' W wa wo W':World} {c n pt r B j b m mb q base cap id B0:Nat} {A:Option Addr} {a code what:Int} {cs:Array Value}
theorem qha:ElemOf 252 256 1 8:=q1l (z := .pointer none) zk zk rfl zd zd
section
variable{w:World} {o:Gh} {pt c:Nat} {x:Cx} {s:Ce}
theorem CeR.pushTk(R:CeR w o pt c x s) {q:Nat} {hp:Hd St} {hd:Hd UInt8} {t:Tk} (T:TkR w o (.task pt s.tk.length) q hp hd t) {w5:World} {A':Option Addr} {c':Nat} (own:Own w5 256 1 A' (s.tk.length + 1) c' (qeq x.tr.qs ++ [pp q])) (hf:Fr (q02 x.tr.A) w w5) (hat:∀ k,q02 A' k->q02 x.tr.A k\/w.heap.size<=k) :
  ∃ o',Mv (PaL pt) o w o' (w5.setCell ⟨c,14,none⟩ (.slice A' (s.tk.length + 1) c'))/\CeR (w5.setCell ⟨c,14,none⟩ (.slice A' (s.tk.length + 1) c')) o' pt c { x with tr:={ x.tr with A:=A',c:=c',qs:=x.tr.qs ++ [q] } } { s with tk:=s.tk ++ [t] }:=by
 have m1:Mv (λy=>y = .tks pt) o w (lay w o (.tks pt)) w5:=Mv.lay _ hf (λj _ hj=>R.tr.1.2 j hj);have k9:=R.k.go m1 zp;have m2:Mv (λy=>y = .tks pt\/y = .cell pt) o w (lay w o (.tks pt)) (w5.setCell ⟨c,14,none⟩ (.slice A' (s.tk.length + 1) c')):=(m1.mono λ_ h => .inl h).setC (λ_ => .inr R.k.2) 14 _;have hL:(s.tk ++ [t]).length=s.tk.length + 1:=zp;refine⟨_,m2.mono (by rintro _ (rfl | rfl) <;> rfl),?_,?_,λi hi=>?_,R.tb.go m2 zp,R.me.go m2 zp,R.ps.go m2 zp zp zp zp,R.ob.go m2 zp zp zp,R.mn.go m2 zp,SkO.go R.sk m2 zp,R.ev.go m2 zp⟩
 .have:=k9.set 14 (.slice A' (s.tk.length + 1) c');unfold Cx.cells;rw[hL];exact this
 .rw[hL];refine⟨⟨?_,λj hj=>?_⟩,by simp[R.tr.2]⟩
  .have h1:=own.fr ((Fr.refl (λj=>j=c) w5).setCell (p:=⟨c,14,none⟩) (λ_=>rfl) (.slice A' (s.tk.length + 1) c')) (λj hj e=>own.ne k9.1 zd (by rw[<- e];exact hj));unfold qeq at h1 ⊢;rw[List.map_append];exact h1
  .by_cases h:j < w.heap.size
   .exact(q0l h).trans (R.tr.1.2 j ((hat j hj).resolve_right zo))
   .exact q07 zo
 .rw[hL]at hi
  show ∃ hp hd,TkR _ _ _ (atN (x.tr.qs ++ [q]) i) hp hd (atD Tk0 (s.tk ++ [t]) i);rw[q28,R.tr.2,Me.atD_app];by_cases h:i < s.tk.length
  .rw[if_pos h,if_pos h];obtain⟨hp,hd,T⟩:=R.tk i h;exact⟨hp,hd,T.go m2 zp zp⟩
  .obtain rfl:i=s.tk.length:=zo;rw[if_neg h,if_pos rfl,if_neg h,if_pos rfl];exact⟨hp,hd,T.go m2 zp zp⟩
def qxd(r:Rg):Me.Sg:=⟨r.base,r.size,r.wr⟩
theorem qz3{h:Hd Rg} (H:q8x.ok w h):SlG w h.A h.l.length h.c 3 Me.sgC (h.l.map qxd)/\∀ s ∈ h.l.map qxd,s.ok:=by
 refine⟨⟨?_,zp,λx _=>rfl⟩,λs hs=>?_⟩
 .have:=H.1.1;rw[List.flatMap_map];exact this
 .obtain⟨r,hr,rfl⟩:=List.mem_map.1 hs;have:=H.2 r hr;exact⟨this.1,this.2.1⟩
theorem qw5{o:Gh} {t g p ob mc' pc:Nat} {pA:Option Addr} {PQ:List (Nat×Nat)} {pq:List Nat} {ox:Ox} {cf:Pt} {part:Int} (k:q1t w o (.cell pt) c 255 #[cf.regs.v,cf.procs.v,cf.ports.v,cf.sems.v,ii cf.flags,cf.pools.v,cf.slates.v,ii cf.cap,ii cf.bud,ii cf.lad,cf.acts.v,ii part,ii 3,ii (-1),.slice none 0 0,pp t,pp g,pp p,pp ob,pp m,.pointer none,.slice none 0 0]) (T:TbL w o pt t mb (qd1 cf.procs.l) 0) (M:MeL w o pt g B A mc' PQ ((cf.regs.l.map qxd).take 4) (((cf.regs.l.map qxd).take 4).map Me.z0)) (P:PsR w o pt p pA pc pq (qgy cf.ports.l)) (O:ObR w o pt ob cf ox (q4r cf)) (N:MnL w o pt m cf.acts.l) :
  CeR w o pt c ⟨⟨none,0,[]⟩,t,mb,g,B,A,mc',PQ,p,pA,pc,pq,ob,ox,m,none,0,0,[],none,0⟩ { qab cf part [] with tk:=[] } :=
 ⟨k,⟨⟨Own.nil _ _ _,λ_ h=>nomatch h⟩,rfl⟩,(λ_ hi=>absurd hi (Nat.not_lt_zero _)),T,M,P,O,N,.inl ⟨rfl,rfl⟩,⟨Own.nil _ _ _,λ_ h=>nomatch h⟩⟩
def q5j(cf:Pt) (part:Int) (prs:List (List St)) (k:Nat):Ce:={ qab cf part [] with tk:=(List.range k).map (q90 prs) }
theorem qko(cf:Pt) (part:Int) (prs:List (List St)) (k:Nat):q5j cf part prs (k + 1)={ q5j cf part prs k with tk:=(q5j cf part prs k).tk ++ [q90 prs k] }:=by
 unfold q5j;dsimp only;rw[List.range_succ,List.map_append,List.map_singleton]
theorem q1n(cf:Pt) (part:Int) (prs:List (List St)) (k:Nat):(q5j cf part prs k).tk.length=k:=by simp[q5j]
theorem qal:cP 120 #[] w λe w'=>e = .returned (.slice (some ⟨w.heap.size,0,none⟩) 1 1)/\w'=w.alloc (.cells #[ii 1,ii 3,ii 0,ii 0,ii 0,ii 0] 81):=by
 refine inC ?_;go_in;go_wp2_with fail;go_returns;exact⟨rfl,rfl⟩
theorem qob{g:Nat} (k:Blk w g 81 #[ii 1,ii 3,ii 0,ii 0,ii 0,ii 0]):SlG w (some ⟨g,0,none⟩) 1 1 6 St.f [⟨1,3,0,0,0,0⟩] :=
 ⟨⟨rfl,nL,by unfold maxLen;omega,(λe=>by cases e),λ_=>⟨g,0,rfl,k.lt,λj u hu=>by rw[Nat.zero_add,k.cell j];simpa [St.f] using hu⟩⟩,rfl,λ_ _=>rfl⟩
theorem PrL.part{l:Lb} (h:PrL pt l):l.part=some pt:=by
 rcases h with rfl | ⟨k,rfl | rfl⟩ <;> rfl
theorem qs7{o:Gh} {cf:Pt} {part:Int} {pr:Hd (Hd St)} (hcf:qcu.ok W cf) (hpr:qkn.ok W pr) (hW:bW W w) (hdp:∀ c ∈ cf.pools.l,c.depth<=1000) (hpd:∀ c ∈ cf.ports.l,c.depth<=1000) (hpl:∀ h ∈ pr.l,h.l.length<=1000) (hfr:∀ j,j < w.heap.size->(o j).part≠some pt) :
  cP 58 #[.agg (Pt.lw cf),ii part,.slice pr.A pr.l.length pr.c] w λe w'=>∃ c p o',e = .returned (pp c)/\Mv (λ_=>False) o w o' w'/\CeW w' o' pt c p (q8b cf part (prL pr)):=by
 have kb:=Blk.new w 51 (Pt.lw cf);have b0:bW w (w.alloc (.cells (Pt.lw cf) 51)):=zv;have h9:=hW.trans (b0.mono hW.size);refine inC ?_;go_in;go_upto_region 1 with fail;generalize w.alloc (.cells (Pt.lw cf) 51)=wb at *;obtain⟨Hj,lb⟩:=kb.cl;obtain⟨gb,H2⟩:∃ gb,gb=w.heap.size:=⟨_,rfl⟩
 have Hr:=zhd H2;rw[<- H2]at kb Hj lb ⊢
 clear H2;refine zW [(4,0),(2,0),(2,0),(1,0),(2,0),(1,2)] λK' hK'=>?_;go_wp2_with fail;refine(qqr (w:=wb.drew) (q8y.keep (q8y.keep hcf.2.1 h9) bR.drew)).mono ?_;rintro _ w1 ⟨t,mb,rfl,T1,ht,hm,b1⟩;have B1:bW wb w1:=bt bR.drew b1;refine hK' _ _ rfl (q01 (fO B1 _)) ?_;clear hK' K';(try simp only[tkO,dpO]);(repeat(go_big_quiet_step (fail)));refine qwW (λK' hK'=>?_);go_wp2_with fail;refine(Me.newM_any' (w:=w1) (qz3 (q8x.keep (q8x.keep hcf.1 h9) B1)).1 (qz3 (q8x.keep (q8x.keep hcf.1 h9) B1)).2).mono ?_;rintro _ w2 ⟨rfl,⟨mA,a4,PQ,M2,H8,H0⟩,b2⟩;have B2:bW wb w2:=bt B1 b2;refine hK' _ _ rfl (q01 (fO B2 _)) ?_;clear hK' K';(try simp only[tkO,dpO]);(repeat(go_big_quiet_step (fail)));obtain⟨o2,Hq,T2,H7,He,Hf⟩:∃ o2,Mv (λ_=>False) o w o2 w2/\TbL w2 o2 pt t mb (qd1 cf.procs.l) 0/\MeL w2 o2 pt w1.heap.size w1.heap.size mA a4 PQ ((cf.regs.l.map qxd).take 4) (((cf.regs.l.map qxd).take 4).map Me.z0)/\(∀ j,j < w2.heap.size->¬ PrL pt (o2 j))/\∀ j,j < wb.heap.size->(o2 j).part≠some pt:=by
  have m0:Mv (λ_=>False) o w (lay w o .data) wb:=Mv.lay .data (fO b0 (λ_=>False)) (λ_ _ h=>h.elim);have m1:Mv (λ_=>False) (lay w o .data) wb (lay wb (lay w o .data) (.tab pt)) w1:=Mv.lay (.tab pt) (fO B1 (λ_=>False)) (λ_ _ h=>h.elim);have m2:Mv (λ_=>False) (lay wb (lay w o .data) (.tab pt)) w1 (lay w1 (lay wb (lay w o .data) (.tab pt)) (.mem pt)) w2:=Mv.lay (.mem pt) (fO b2 (λ_=>False)) (λ_ _ h=>h.elim);have T2:TbL w1 (lay wb (lay w o .data) (.tab pt)) pt t mb (qd1 cf.procs.l) 0:=⟨T1,q07 ht,q07 hm⟩
  have h0:∀ j,(lay w o .data j).part≠some pt\/w.heap.size<=j/\lay w o .data j = .data:=λj=>by
   by_cases q:j < w.heap.size
   .rw[q0l q];exact .inl (hfr j q)
   .exact .inr ⟨zo,q07 zo⟩
  have h1:∀ j,(lay w o .data j).part≠some pt:=λj=>by
   rcases h0 j with h | ⟨_,h⟩
   .exact h
   .rw[h];simp[Lb.part]
  refine⟨_,(m0.trans m1).trans m2,T2.go m2 id,⟨M2,q07 nL,λb f _ e=>q07 (H8 b f e),λi hi=>⟨q07 (H0 i hi).1,q07 (H0 i hi).2⟩⟩,λj hj h=>?_,λj hj=>?_⟩
  .by_cases q1:j < w1.heap.size
   .rw[q0l q1]at h
    by_cases q2:j < wb.heap.size
    .rw[q0l q2]at h;exact h1 j h.part
    .rw[q07 zo]at h;simp[PrL,PtL,PkL]at h
   .rw[q07 zo]at h;simp[PrL,PtL,PkL]at h
  .rw[q0l (Nat.lt_of_lt_of_le hj B1.size),q0l hj];exact h1 j
 refine qwW (λK' hK'=>?_);go_wp2_with fail;refine(qrs (w:=w2) (qb6.keep (qb6.keep hcf.2.2.1 h9) B2) hpd He).mono ?_;rintro _ w3 ⟨p,pA,pc,pq,o3,rfl,P3,m3⟩;have B3:bW wb w3:=bt B2 (m3.f.below (λ_ _ h=>h.elim) nL);refine hK' _ _ rfl (q01 (fO B3 _)) ?_;clear hK' K';(try simp only[tkO,dpO]);(repeat(go_big_quiet_step (fail)));refine qwW (λK' hK'=>?_);go_wp2_with fail;refine(qrw (w:=w3) (o:=o3) (pt:=pt) hcf (h9.trans (B3.mono h9.size)) hdp).mono ?_;rintro _ w4 ⟨ob,o4,ox,rfl,m4,O4⟩;have B4:bW wb w4:=B3.trans (m4.f.below (λj hj h=>Hf j hj (by rw[<- m3.a j (Nat.lt_of_lt_of_le hj B2.size),show o3 j = .obs pt from h];rfl)) B3.size);refine hK' _ _ rfl (q01 (fO B4 _)) ?_;clear hK' K';(try simp only[tkO,dpO]);(repeat(go_big_quiet_step (fail)));refine qwW (λK' hK'=>?_);go_wp2_with fail;refine(Mo.new_any (w:=w4) (q1f.keep (q1f.keep hcf.2.2.2.2.2.2.2.2.2.2 h9) B4)).mono ?_;rintro _ w5 ⟨rfl,N5,b5⟩;have B5:bW wb w5:=bt B4 b5;refine hK' _ _ rfl (q01 (fO B5 _)) ?_;clear hK' K';(try simp only[tkO,dpO]);(repeat(go_big_quiet_step (fail)));refine qwB (λK' hK'=>?_);go_wp2_with fail;refine hK' _ _ rfl ?_;clear hK' K';(try simp only[q03,tkO,dpO]);(repeat(go_big_quiet_step (fail)));refine wpQuiet_nil ?_;have m5:Mv (λ_=>False) o4 w4 (lay w4 o4 (.mon pt)) w5:=Mv.lay (.mon pt) (fO b5 (λ_=>False)) (λ_ _ h=>h.elim);have b6:bW w5 (w5.alloc (.cells #[.slice cf.regs.A cf.regs.l.length cf.regs.c,.slice cf.procs.A cf.procs.l.length cf.procs.c,.slice cf.ports.A cf.ports.l.length cf.ports.c,.slice cf.sems.A cf.sems.l.length cf.sems.c,ii cf.flags,.slice cf.pools.A cf.pools.l.length cf.pools.c,.slice cf.slates.A cf.slates.l.length cf.slates.c,ii cf.cap,ii cf.bud,ii cf.lad,.slice cf.acts.A cf.acts.l.length cf.acts.c,ii part,ii 3,ii (-1),.slice none 0 0,pp t,pp w1.heap.size,pp p,pp ob,pp w4.heap.size,.pointer none,.slice none 0 0] 255)):=zv;have m6:Mv (λ_=>False) (lay w4 o4 (.mon pt)) w5 (lay w5 (lay w4 o4 (.mon pt)) (.cell pt)) (w5.alloc (.cells #[.slice cf.regs.A cf.regs.l.length cf.regs.c,.slice cf.procs.A cf.procs.l.length cf.procs.c,.slice cf.ports.A cf.ports.l.length cf.ports.c,.slice cf.sems.A cf.sems.l.length cf.sems.c,ii cf.flags,.slice cf.pools.A cf.pools.l.length cf.pools.c,.slice cf.slates.A cf.slates.l.length cf.slates.c,ii cf.cap,ii cf.bud,ii cf.lad,.slice cf.acts.A cf.acts.l.length cf.acts.c,ii part,ii 3,ii (-1),.slice none 0 0,pp t,pp w1.heap.size,pp p,pp ob,pp w4.heap.size,.pointer none,.slice none 0 0] 255)):=Mv.lay (.cell pt) (fO b6 (λ_=>False)) (λ_ _ h=>h.elim);have M0:=(((Hq.trans m3).trans' m4 (λj hj h=>hfr j hj (by rw[show o j = .obs pt from h];rfl))).trans m5).trans m6;have R0:=qw5 (part:=part) ⟨Blk.new w5 255 #[.slice cf.regs.A cf.regs.l.length cf.regs.c,.slice cf.procs.A cf.procs.l.length cf.procs.c,.slice cf.ports.A cf.ports.l.length cf.ports.c,.slice cf.sems.A cf.sems.l.length cf.sems.c,ii cf.flags,.slice cf.pools.A cf.pools.l.length cf.pools.c,.slice cf.slates.A cf.slates.l.length cf.slates.c,ii cf.cap,ii cf.bud,ii cf.lad,.slice cf.acts.A cf.acts.l.length cf.acts.c,ii part,ii 3,ii (-1),.slice none 0 0,pp t,pp w1.heap.size,pp p,pp ob,pp w4.heap.size,.pointer none,.slice none 0 0],q07 nL⟩ (((((T2.go m3 id).go m4 zp).go m5 id).go m6 id)) (((((H7.go m3 id).go m4 zp).go m5 id).go m6 id)) (((P3.go m4 zp zp zp zp).go m5 id (λ_=>id) (λ_=>id) id).go m6 id (λ_=>id) (λ_=>id) id) ((O4.go m5 id (λ_ _=>id) id).go m6 id (λ_ _=>id) id) ((show MnL w5 (lay w4 o4 (.mon pt)) pt w4.heap.size cf.acts.l from⟨⟨_,_,_,N5⟩,q07 nL⟩).go m6 id);generalize w5.alloc (.cells #[.slice cf.regs.A cf.regs.l.length cf.regs.c,.slice cf.procs.A cf.procs.l.length cf.procs.c,.slice cf.ports.A cf.ports.l.length cf.ports.c,.slice cf.sems.A cf.sems.l.length cf.sems.c,ii cf.flags,.slice cf.pools.A cf.pools.l.length cf.pools.c,.slice cf.slates.A cf.slates.l.length cf.slates.c,ii cf.cap,ii cf.bud,ii cf.lad,.slice cf.acts.A cf.acts.l.length cf.acts.c,ii part,ii 3,ii (-1),.slice none 0 0,pp t,pp w1.heap.size,pp p,pp ob,pp w4.heap.size,.pointer none,.slice none 0 0] 255)=w6 at *;generalize lay w5 (lay w4 o4 (.mon pt)) (.cell pt)=o6 at *;generalize w5.heap.size=c at *;clear Hq m3 m4 m5 m6 T2 H7 P3 O4 N5 B1 B2 B3 B4 B5 b1 b2 b5 b6 He Hf T1 M2 H8 H0 ht hm kb Hj lb b0 Hr;obtain⟨x0,Hg,R0⟩:∃ x0:Cx,x0.p=p/\CeR w6 o6 pt c x0 (q5j cf part (prL pr) 0):=⟨_,rfl,R0⟩
 have Ht:=zhd Hg;clear Hg;have Hu:=R0.c15;have lc:=R0.k.1.lt;obtain⟨n,hn⟩:∃ n,n=(qd1 cf.procs.l).length:=⟨_,rfl⟩
 have Hx:n<=8:=by rw[hn];unfold qd1;simp;omega
 have hL:=q7f R0.tb.1;rw[show(q5j cf part (prL pr) 0).tab.length=n from hn.symm]at hL
 have HN:=zhd hn;clear hn;go_upto_region 3 with (go_at_call 119;refine(hL).mono ?_;rintro _ _ ⟨rfl,rfl⟩)
 go_wp2_with fail;go_loopw [34] (λi wr=>∃ (k:Nat) (o':Gh) (x':Cx),i = .int .i64 k/\k<=n/\Mv (λ_=>False) o w o' wr/\x'.p=p/\CeR wr o' pt c x' (q5j cf part (prL pr) k)) (λi _=>n - (intOf i).toNat)
 case atStart=>exact⟨0,o6,x0,rfl,Nat.zero_le _,M0,Ht.out,R0⟩
 case round =>
  clear M0 R0 Hu lc hL;obtain⟨k,o',x',rfl,hkn,M,hz,R⟩:=hrel;by_cases hk:k < n
  .have hB:bW W wr:=hW.trans (M.f.below (λ_ _ h=>h.elim) hW.size);have Hz:wrap64 ((k:Int) + 1)=((k + 1:Nat):Int):=by unfold wrap64;omega
   have lc:=R.k.1.lt;have h6:=R.c14;rw[q1n]at h6
   have H9:=zhd hB;have h5:∀ (w4:World) (q:Nat) (hp:Hd St),bW wr w4->wr.heap.size<=q->Blk w4 q 259 #[hp.v,ii 0,ii 0,ii 0,.slice none 0 0,.bool false]->SlG w4 hp.A hp.l.length hp.c 6 St.f hp.l->(∀ y ∈ hp.l,y.ok)->(∀ b f,hp.A=some ⟨b,f,none⟩->wr.heap.size<=b/\b≠q)->hp.l=(q90 (prL pr) k).prog->0 < hp.l.length->hp.l.length<=1000 ->
     ∃ o4,Mv (λ_=>False) o' wr o4 w4/\CeR w4 o4 pt c x' (q5j cf part (prL pr) k)/\TkR w4 o4 (.task pt (q5j cf part (prL pr) k).tk.length) q hp ⟨none,0,[]⟩ (q90 (prL pr) k):=λw4 q hp hb4 hq kq hs hok hb hpl h0 h1=>by
    have m4:Mv (λ_=>False) o' wr (λj=>if j=q then .task pt k else lay wr o' .data j) w4:=⟨fO hb4 _,λj hj=>by rw[if_neg zo,q0l hj]⟩
    refine⟨_,m4,R.go m4 (λ_ h=>h.elim) id,?_⟩;rw[q1n];exact⟨⟨kq,if_pos rfl⟩,⟨hs,hok,λb f _ e=>by show(if b=q then Lb.task pt k else lay wr o' .data b) = .data;rw[if_neg (hb b f e).2,q07 (hb b f e).1]⟩,hpl,Dat.nil,rfl,by rw[<- hpl];exact h0,by rw[<- hpl];exact h1,by show i64 0;unfold i64;omega,Nat.zero_le _⟩
   have h4:∀ (w4:World) (o4:Gh) (q:Nat) (hp:Hd St),Mv (λ_=>False) o' wr o4 w4->CeR w4 o4 pt c x' (q5j cf part (prL pr) k)->TkR w4 o4 (.task pt (q5j cf part (prL pr) k).tk.length) q hp ⟨none,0,[]⟩ (q90 (prL pr) k)->∀ (w5:World) (A':Option Addr) (c':Nat),Own w5 256 1 A' (k + 1) c' (qeq x'.tr.qs ++ [pp q])->Fr (q02 x'.tr.A) w4 w5->(∀ j,q02 A' j->q02 x'.tr.A j\/w4.heap.size<=j) ->
     ∃ (o9:Gh) (x9:Cx),Mv (λ_=>False) o w o9 (w5.setCell ⟨c,14,none⟩ (.slice A' (k + 1) c'))/\x9.p=p/\CeR (w5.setCell ⟨c,14,none⟩ (.slice A' (k + 1) c')) o9 pt c x9 (q5j cf part (prL pr) (k + 1)):=λw4 o4 q hp m4 R4 T4 w5 A' c' h7 hf hat=>by
    have Hc:=q1n cf part (prL pr) k;obtain⟨o9,m9,R9⟩:=R4.pushTk T4 (w5:=w5) (A':=A') (c':=c') (by rw[Hc];exact h7) hf hat;rw[Hc]at m9 R9
    rw[<- qko]at R9
    exact⟨o9,{ x' with tr:=⟨A',c',x'.tr.qs ++ [q]⟩ },(M.trans m4).trans' m9 (λj hj h=>hfr j hj h),hz,R9⟩
   replace h5:=zhd h5;replace h4:=zhd h4;clear M hz R hB;by_cases q:k < pr.l.length
   .obtain⟨pb,po,Hy,plt,H3⟩:=(qkn.keep hpr H9.out).1.at_ (⟨none,0,[]⟩:Hd St) q;rw[show qoa.sz=1 from rfl]at H3
    have s0:wr.cell? ⟨pb,po + k * 1,none⟩=some (.slice (atD ⟨none,0,[]⟩ pr.l k).A (atD ⟨none,0,[]⟩ pr.l k).l.length (atD ⟨none,0,[]⟩ pr.l k).c):=H3 0 _ rfl;rw[Nat.mul_one]at s0
    rw[Hy];have hc:atD ⟨none,0,[]⟩ pr.l k ∈ pr.l:=by rw[q0s q];exact List.getElem_mem q
    have hx:=(qkn.keep hpr H9.out).2 _ hc;have ha:=hpl _ hc;have hd:(q90 (prL pr) k).prog=if 0 < (atD ⟨none,0,[]⟩ pr.l k).l.length then (atD ⟨none,0,[]⟩ pr.l k).l else [⟨1,3,0,0,0,0⟩]:=by
     have e:atD [] (prL pr) k=(atD ⟨none,0,[]⟩ pr.l k).l:=by unfold prL;rw[q0s (by simpa using q),List.getElem_map,q0s q]
     unfold q90;rw[e];by_cases h:0 < (atD ⟨none,0,[]⟩ pr.l k).l.length
     .rw[if_pos h,if_pos ⟨by simpa [prL] using q,h⟩]
     .rw[if_neg h,if_neg (λx=>h x.2)]
    generalize atD ⟨none,0,[]⟩ pr.l k=hh at *;clear H3 hc;by_cases q2:0 < hh.l.length
    .rw[if_pos q2]at hd
     have b2:decide (0 < (hh.l.length:Int))=true:=decide_eq_true zo;have hg:=zhd hd;have kq:=Blk.new (wr.alloc (.cells #[ii 1,ii 3,ii 0,ii 0,ii 0,ii 0] 81)) 259 #[.slice (some ⟨wr.heap.size,0,none⟩) 1 1,ii 0,ii 0,ii 0,.slice none 0 0,.bool false];rw[World.size_alloc]at kq
     have b4:bW wr ((wr.alloc (.cells #[ii 1,ii 3,ii 0,ii 0,ii 0,ii 0] 81)).alloc (.cells #[.slice (some ⟨wr.heap.size,0,none⟩) 1 1,ii 0,ii 0,ii 0,.slice none 0 0,.bool false] 259)):=zv;have Hb:=qkm (w:=((wr.alloc (.cells #[ii 1,ii 3,ii 0,ii 0,ii 0,ii 0] 81)).alloc (.cells #[.slice (some ⟨wr.heap.size,0,none⟩) 1 1,ii 0,ii 0,ii 0,.slice none 0 0,.bool false] 259))) (hx.1.1.keep b4) (λu hu=>by
      obtain⟨y,_,hy⟩:=List.mem_flatMap.1 hu;rcases List.mem_cons.1 hy with rfl | hy
      .rfl
      .simp only[List.mem_cons,List.not_mem_nil,or_false]at hy;rcases hy with rfl | rfl | rfl | rfl | rfl <;> rfl) zo
     have H5:=zhd Hb;have HL:=zhd (And.intro ha q2);have Hs:=zhd hx.2;clear hd hx ha Hb b2;go_upto_region 8 with (first
      | (go_at_call 120;refine(qal).mono ?_;rintro _ w2 ⟨rfl,rfl⟩)
      | (go_at_call 121;refine(H5.out).mono ?_;rintro _ w3 ⟨A9,c9,rfl,h8,Ha,b9⟩);have he:=kq.keep b9;have a2:=he.frozen;obtain⟨a1,a3⟩:=he.cl)
     have Hp:=he.set_ 0 (.slice A9 hh.l.length c9);have B9:bW wr (w3.setCell ⟨wr.heap.size + 1,0,none⟩ (.slice A9 hh.l.length c9)):=(bt b4 b9).setCell (Nat.le_succ _) _;have hv:=h8.fr ((Fr.refl (λj=>j=wr.heap.size + 1) w3).setCell (p:=⟨wr.heap.size + 1,0,none⟩) (λ_=>rfl) (.slice A9 hh.l.length c9)) (λj hj e=>h8.ne he zd (by rw[<- e];exact hj));obtain⟨g9,H1⟩:=h8.head HL.out.2;have Hv:wr.heap.size + 2<=g9:=by have:=Ha g9 H1;rw[World.size_alloc,World.size_alloc]at this;omega
     obtain⟨o4,m4,R4,T4⟩:=h5.out _ (wr.heap.size + 1) ⟨A9,c9,hh.l⟩ B9 (Nat.le_succ _) Hp ⟨hv.sl,rfl,λ_ _=>rfl⟩ Hs.out (λb f e=>by rw[H1]at e;cases e;omega) hg.out.symm HL.out.2 HL.out.1;generalize w3.setCell ⟨wr.heap.size + 1,0,none⟩ (.slice A9 hh.l.length c9)=w4 at m4 R4 T4 ⊢;generalize hq4:wr.heap.size + 1=q4 at T4 ⊢;clear kq he a2 a3 a1 Hp hq4 hv h8 Ha b9 B9 H1 Hv b4 H5;have h7:=R4.tr.1.1;rw[q1n]at h7
     have h6:=R4.c14;have lc:=R4.k.1.lt;rw[q1n]at h6
     go_wp2_with (at_builtin;refine q2k qha w4 zr _ _ zr zr h7 #[pp q4] rfl (by simp[Value.oneCell']) zr zo ?_;intro A' c' w5 own5 hf5 hat5;have k5:=R4.k.1.fr hf5 (R4.tr.1.1.ne R4.k.1 zd);have Hm:=k5.frozen;obtain⟨Hk,Hn⟩:=k5.cl);obtain⟨o9,x9,h1,h2,h3⟩:=h4.out w4 o4 q4 ⟨A9,c9,hh.l⟩ m4 R4 T4 w5 A' c' own5 hf5 hat5;exact⟨⟨k + 1,o9,x9,rfl,hk,h1,h2,h3⟩,qs3 hk⟩
    .rw[if_neg q2]at hd
     have b2:decide (0 < (hh.l.length:Int))=false:=decide_eq_false zo;have hg:=zhd hd;clear hd hx ha;go_upto_region 8 with (go_at_call 120;refine(qal).mono ?_;rintro _ w2 ⟨rfl,rfl⟩)
     have hr:=(Blk.new wr 81 #[ii 1,ii 3,ii 0,ii 0,ii 0,ii 0]).alloc (.cells #[.slice (some ⟨wr.heap.size,0,none⟩) 1 1,ii 0,ii 0,ii 0,.slice none 0 0,.bool false] 259);have kq:=Blk.new (wr.alloc (.cells #[ii 1,ii 3,ii 0,ii 0,ii 0,ii 0] 81)) 259 #[.slice (some ⟨wr.heap.size,0,none⟩) 1 1,ii 0,ii 0,ii 0,.slice none 0 0,.bool false];rw[World.size_alloc]at kq
     obtain⟨o4,m4,R4,T4⟩:=h5.out _ (wr.heap.size + 1) ⟨some ⟨wr.heap.size,0,none⟩,1,[⟨1,3,0,0,0,0⟩]⟩ (show bW wr ((wr.alloc (.cells #[ii 1,ii 3,ii 0,ii 0,ii 0,ii 0] 81)).alloc (.cells #[.slice (some ⟨wr.heap.size,0,none⟩) 1 1,ii 0,ii 0,ii 0,.slice none 0 0,.bool false] 259)) by go_grown) (Nat.le_succ _) kq (qob hr) (λy hy=>by rw[List.mem_singleton.1 hy];unfold St.ok i64;decide) (λb f e=>by cases e;exact⟨nL,zo⟩) hg.out.symm (Nat.zero_lt_one) (by show(1:Nat)<=1000;omega);generalize ((wr.alloc (.cells #[ii 1,ii 3,ii 0,ii 0,ii 0,ii 0] 81)).alloc (.cells #[.slice (some ⟨wr.heap.size,0,none⟩) 1 1,ii 0,ii 0,ii 0,.slice none 0 0,.bool false] 259))=w4 at m4 R4 T4 ⊢;generalize hq4:wr.heap.size + 1=q4 at T4 ⊢;clear hr kq hq4;have h7:=R4.tr.1.1;rw[q1n]at h7
     have h6:=R4.c14;have lc:=R4.k.1.lt;rw[q1n]at h6
     go_wp2_with (at_builtin;refine q2k qha w4 zr _ _ zr zr h7 #[pp q4] rfl (by simp[Value.oneCell']) zr zo ?_;intro A' c' w5 own5 hf5 hat5;have k5:=R4.k.1.fr hf5 (R4.tr.1.1.ne R4.k.1 zd);have Hm:=k5.frozen;obtain⟨Hk,Hn⟩:=k5.cl);obtain⟨o9,x9,h1,h2,h3⟩:=h4.out w4 o4 q4 ⟨some ⟨wr.heap.size,0,none⟩,1,[⟨1,3,0,0,0,0⟩]⟩ m4 R4 T4 w5 A' c' own5 hf5 hat5;exact⟨⟨k + 1,o9,x9,rfl,hk,h1,h2,h3⟩,qs3 hk⟩
   .have hg:Hid ((q90 (prL pr) k).prog = [⟨1,3,0,0,0,0⟩]):=if_neg (λh=>q (by have:=h.1;simpa [prL] using this));have b2:decide ((k:Int) < (pr.l.length:Int))=false:=decide_eq_false zo;go_upto_region 8 with (go_at_call 120;refine(qal).mono ?_;rintro _ w2 ⟨rfl,rfl⟩)
    have hr:=(Blk.new wr 81 #[ii 1,ii 3,ii 0,ii 0,ii 0,ii 0]).alloc (.cells #[.slice (some ⟨wr.heap.size,0,none⟩) 1 1,ii 0,ii 0,ii 0,.slice none 0 0,.bool false] 259);have kq:=Blk.new (wr.alloc (.cells #[ii 1,ii 3,ii 0,ii 0,ii 0,ii 0] 81)) 259 #[.slice (some ⟨wr.heap.size,0,none⟩) 1 1,ii 0,ii 0,ii 0,.slice none 0 0,.bool false];rw[World.size_alloc]at kq
    obtain⟨o4,m4,R4,T4⟩:=h5.out _ (wr.heap.size + 1) ⟨some ⟨wr.heap.size,0,none⟩,1,[⟨1,3,0,0,0,0⟩]⟩ (show bW wr ((wr.alloc (.cells #[ii 1,ii 3,ii 0,ii 0,ii 0,ii 0] 81)).alloc (.cells #[.slice (some ⟨wr.heap.size,0,none⟩) 1 1,ii 0,ii 0,ii 0,.slice none 0 0,.bool false] 259)) by go_grown) (Nat.le_succ _) kq (qob hr) (λy hy=>by rw[List.mem_singleton.1 hy];unfold St.ok i64;decide) (λb f e=>by cases e;exact⟨nL,zo⟩) hg.out.symm (Nat.zero_lt_one) (by show(1:Nat)<=1000;omega);generalize ((wr.alloc (.cells #[ii 1,ii 3,ii 0,ii 0,ii 0,ii 0] 81)).alloc (.cells #[.slice (some ⟨wr.heap.size,0,none⟩) 1 1,ii 0,ii 0,ii 0,.slice none 0 0,.bool false] 259))=w4 at m4 R4 T4 ⊢;generalize hq4:wr.heap.size + 1=q4 at T4 ⊢;clear hr kq hq4;have h7:=R4.tr.1.1;rw[q1n]at h7
    have h6:=R4.c14;have lc:=R4.k.1.lt;rw[q1n]at h6
    go_wp2_with (at_builtin;refine q2k qha w4 zr _ _ zr zr h7 #[pp q4] rfl (by simp[Value.oneCell']) zr zo ?_;intro A' c' w5 own5 hf5 hat5;have k5:=R4.k.1.fr hf5 (R4.tr.1.1.ne R4.k.1 zd);have Hm:=k5.frozen;obtain⟨Hk,Hn⟩:=k5.cl);obtain⟨o9,x9,h1,h2,h3⟩:=h4.out w4 o4 q4 ⟨some ⟨wr.heap.size,0,none⟩,1,[⟨1,3,0,0,0,0⟩]⟩ m4 R4 T4 w5 A' c' own5 hf5 hat5;exact⟨⟨k + 1,o9,x9,rfl,hk,h1,h2,h3⟩,qs3 hk⟩
  .obtain rfl:k=n:=zo;have h6:=R.c14;have lc:=R.k.1.lt;rw[q1n]at h6
   go_wp2_with fail;go_loopw [76] (λi w2=>∃ (j:Nat) (o2:Gh) (x2:Cx),i = .int .i64 j/\j<=k/\Mv (λ_=>False) o w o2 w2/\x2.p=p/\CeR w2 o2 pt c x2 (q1h (λs k=>q0m s k 0) (q5j cf part (prL pr) k) j)) (λi _=>k - (intOf i).toNat)
   case atStart=>exact⟨0,o',x',rfl,Nat.zero_le _,M,hz,R⟩
   case round =>
    clear M R hz h6 lc;obtain⟨j,o2,x2,rfl,hjn,M2,Hh,R2⟩:=hrel;have H6:=zhd Hh;clear Hh;by_cases hj:j < k
    .have Hz:wrap64 ((j:Int) + 1)=((j + 1:Nat):Int):=by unfold wrap64;omega
     have H4:(q1h (λs k=>q0m s k 0) (q5j cf part (prL pr) k) j).tk.length=k:=(q5a (λs k=>qag s k 0) _ j).trans (q1n _ _ _ _);have hS:=q61 R2 (k:=j) (win:=0) (by rw[H4];exact hj) (by rw[H4];exact Hx);have HS:=zhd hS;clear hS H4;go_wp2_with (go_at_call 122;refine HS.out.mono ?_;rintro _ w3 ⟨rfl,o3,m3,x3,a0,R3⟩);exact⟨⟨j + 1,o3,x3,rfl,hj,M2.trans' m3 (λi hi h=>hfr i hi h),a0.trans H6.out,by rw[q1p];exact R3⟩,qs3 hj⟩
    .obtain rfl:j=k:=zo;go_wp2_with fail;go_returns;exact⟨c,p,o2,rfl,M2,x2,H6.out,by
      have e:q8b cf part (prL pr)=q1h (λs k=>q0m s k 0) (q5j cf part (prL pr) j) j:=by unfold q8b q5j qab;rw[<- HN.out]
      rw[e];exact R2⟩
end
section
variable{w:World} {o o2:Gh} {pt:Nat} (H:∀ j l,(l.part=some pt\/l = .data)->o j=l->o2 j=l)
theorem q1t.re{l:Lb} (H:∀ j,o j=l->o2 j=l) {g:Nat} {t:TypeId} {cs:Array Value} (h:q1t w o l g t cs):q1t w o2 l g t cs:=⟨h.1,H _ h.2⟩
theorem q4q.re{l:Lb} (H:∀ j,o j=l->o2 j=l) {e:TypeId} {sz:Nat} {A:Option Addr} {n c:Nat} {xs:List Value} (h:q4q w o l e sz A n c xs):q4q w o2 l e sz A n c xs:=⟨h.1,λk hk=>H _ (h.2 k hk)⟩
theorem Dat.re(H:∀ j,o j = .data->o2 j = .data) {h:Hd UInt8} (d:Dat w o h):Dat w o2 h:=⟨d.1,λb f hn e=>H _ (d.2 b f hn e)⟩
include H
theorem CeR.re{x:Cx} {s:Ce} (R:CeR w o pt c x s):CeR w o2 pt c x s:=by
 have hl:∀ l:Lb,l.part=some pt->∀ j,o j=l->o2 j=l:=λl e j h=>H j l (.inl e) h;have hd:∀ j,o j = .data->o2 j = .data:=λj h=>H j .data (.inr rfl) h;have hp:∀ h:Hd St,qxa w o h->qxa w o2 h:=λh p=>⟨p.1,p.2.1,λb f hn e=>hd _ (p.2.2 b f hn e)⟩
 have hr:∀ (l:Lb) (t:TypeId) (x:Rx) (n:Nat),l.part=some pt->qbj w o l t x n->qbj w o2 l t x n:=λl t x n e h=>⟨h.1.re (hl l e),h.2⟩
 refine⟨R.k.re (hl _ rfl),hr _ _ _ _ rfl R.tr,λi hi=>?_,⟨R.tb.1,hl _ rfl _ R.tb.2.1,hl _ rfl _ R.tb.2.2⟩,⟨R.me.1,hl _ rfl _ R.me.2.1,λb f hn e=>hl _ rfl _ (R.me.2.2.1 b f hn e),λi hi=>⟨hl _ rfl _ (R.me.2.2.2 i hi).1,hl _ rfl _ (R.me.2.2.2 i hi).2⟩⟩,?_,?_,⟨R.mn.1,hl _ rfl _ R.mn.2⟩,?_,R.ev.re (hl _ rfl)⟩
 .obtain⟨h1,h2,T⟩:=R.tk i hi;exact⟨h1,h2,T.k.re (hl _ rfl),hp _ T.p,T.pl,T.d.re hd,T.dl,T.at_,T.n,T.a,T.dn⟩
 .have P:=R.ps;refine⟨P.k.re (hl _ rfl),P.a.re (hl _ rfl),P.n,λi hi=>?_⟩;obtain⟨v,q⟩:=P.q i hi;refine⟨v,q.k.re (hl _ rfl),?_,q.ok,q.d⟩;have hb:=q.b;generalize (atD Ps0 s.pts i).box=bx at hb;cases bx with
  | que b d =>
   obtain⟨q,A,cap,hs,h1,h2,h3,h4,h5⟩:=hb;exact⟨q,A,cap,hs,h1,h2.re (hl _ rfl),h3.re (hl _ rfl),h4,λy hy=>(h5 y hy).re hd⟩
  | smp b t f =>
   obtain⟨q,y,h1,h2,h3,h4⟩:=hb;exact⟨q,y,h1,h2.re (hl _ rfl),h3,h4.re hd⟩
 .have B:=R.ob;refine⟨B.k.re (hl _ rfl),hr _ _ _ _ rfl B.rs,hr _ _ _ _ rfl B.rf,hr _ _ _ _ rfl B.rp,hr _ _ _ _ rfl B.rl,λi hi=>(B.s i hi).re (hl _ rfl),λi hi=>(B.f i hi).re (hl _ rfl),λi hi=>?_,λi hi=>?_⟩
  .obtain⟨A,cap,hs,h1,h2,h3,h4,h5⟩:=B.p i hi;exact⟨A,cap,hs,h1.re (hl _ rfl),h2.re (hl _ rfl),h3,λy hy=>(h4 y hy).re hd,h5⟩
  .obtain⟨h,h1,h2,h3,h4⟩:=B.l i hi;exact⟨h,h1.re (hl _ rfl),h2,h3.re hd,h4⟩
 .rcases R.sk with h | ⟨z,b,h1,h2,h3⟩
  .exact .inl h
  .obtain⟨k1,k2,k3,k4,k5⟩:=h3;exact .inr ⟨z,b,h1,h2,k1,hl _ rfl _ k2,k3,hl _ rfl _ k4,λk hk=>hl _ rfl _ (k5 k hk)⟩
end
theorem qw6{o o':Gh} {p:Nat} {s:Ce} (m:Mv (λ_=>False) o w o' w') (R:CeW w' o' pt c p s):∃ o2,Mv (λ_=>False) o w o2 w'/\CeW w' o2 pt c p s/\∀ j,w.heap.size<=j->(o2 j).part=some pt\/o2 j = .data:=by
 obtain⟨x,hx,R⟩:=R;refine⟨λj=>if j < w.heap.size then o' j else if (o' j).part=some pt then o' j else .data,⟨m.f,λj hj=>(if_pos hj).trans (m.a j hj)⟩,⟨x,hx,R.re λj l hl e=>?_⟩,λj hj=>?_⟩
 .show(if j < w.heap.size then o' j else if (o' j).part=some pt then o' j else .data)=l;split
  .exact e
  .split
   .exact e
   .rename_i h;rcases hl with hl | hl
    .rw[e]at h;exact absurd hl h
    .exact hl.symm
 .show(if j < w.heap.size then o' j else if (o' j).part=some pt then o' j else Lb.data).part=some pt\/(if j < w.heap.size then o' j else if (o' j).part=some pt then o' j else Lb.data)=Lb.data;rw[if_neg zo];split
  .rename_i h;exact .inl h
  .exact .inr rfl
def Pr0:Hd (Hd St):=⟨none,0,[]⟩
def q2c(sc:Sc) (p:Nat):Hd (Hd St):=atD Pr0 sc.progs.l p
theorem qoc{sc:Sc} (hs:q73.ok w sc) (p:Nat):cP 59 #[.agg #[.slice sc.progs.A sc.progs.l.length sc.progs.c,.slice sc.frames.A sc.frames.l.length sc.frames.c],ii p] w λe w'=>e = .returned (.slice (q2c sc p).A (q2c sc p).l.length (q2c sc p).c)/\bW w w':=by
 have b0:decide ((p:Int) < 0)=false:=zp;have B0:bW w (w.alloc (.cells #[.slice sc.progs.A sc.progs.l.length sc.progs.c,.slice sc.frames.A sc.frames.l.length sc.frames.c] 37)):=zv;by_cases h:p < sc.progs.l.length
 .have b1:decide (sc.progs.l.length<=p)=false:=decide_eq_false zo;obtain⟨pb,po,hA,hpb,h0⟩:=(qh9.keep hs.1 B0).1.at_ Pr0 h;have c0:(w.alloc (.cells #[.slice sc.progs.A sc.progs.l.length sc.progs.c,.slice sc.frames.A sc.frames.l.length sc.frames.c] 37)).cell? ⟨pb,po + p * 1,none⟩=some (.slice (q2c sc p).A (q2c sc p).l.length (q2c sc p).c):=h0 0 _ rfl;rw[hA]at c0 B0 ⊢
  have c0:(w.alloc (.cells #[.slice (some ⟨pb,po,none⟩) sc.progs.l.length sc.progs.c,.slice sc.frames.A sc.frames.l.length sc.frames.c] 37)).cell? ⟨pb,po + p,none⟩=some (.slice (q2c sc p).A (q2c sc p).l.length (q2c sc p).c):=by rw[Nat.mul_one]at c0;exact c0
  generalize q2c sc p=q at *;clear h0 hA hs;refine inC ?_;go_in;go_upto_region 1 with fail;have k1:=Blk.new w 37 #[.slice (some ⟨pb,po,none⟩) sc.progs.l.length sc.progs.c,.slice sc.frames.A sc.frames.l.length sc.frames.c];generalize w.alloc (.cells #[.slice (some ⟨pb,po,none⟩) sc.progs.l.length sc.progs.c,.slice sc.frames.A sc.frames.l.length sc.frames.c] 37)=w1 at *;obtain⟨g,hg⟩:∃ g,g=w.heap.size:=⟨_,rfl⟩
  rw[<- hg]at k1 ⊢
  clear hg;obtain⟨kc,lg⟩:=k1.cl;clear k1;go_wp2_with fail;go_returns;exact⟨rfl,B0⟩
 .have b1:decide (sc.progs.l.length<=p)=true:=decide_eq_true zo;have hq:q2c sc p=Pr0:=qby zo;rw[hq];clear h;refine inC ?_;go_in;go_wp2_with fail;go_returns;exact⟨rfl,B0⟩
theorem qkp{cf:Cf} (hx:q1k.ok w cf) :
  cP 53 #[.agg (Cf.lw cf)] w λe w'=>(∃ z k:Int,e = .returned (.tuple #[ii z,ii k])/\decide (z=0)=qrl cf)/\bW w w':=by
 have hE:qrl cf=qrl cf:=rfl
 conv at hE=>rhs;unfold qrl
 have HE:=zhd hE;clear hE;generalize qrl cf=R at *;have b0:bW w (w.alloc (.cells (Cf.lw cf) 33)):=zv;have kp:=Blk.new w 33 (Cf.lw cf);have hn:=hx.1.1.len;refine inC ?_;go_in;go_upto_region 1 with fail;generalize w.alloc (.cells (Cf.lw cf) 33)=w1 at *;obtain⟨g,hg⟩:∃ g,g=w.heap.size:=⟨_,rfl⟩
 rw[<- hg]at kp ⊢
 clear hg;obtain⟨kc,lg⟩:=kp.cl;cases q:inS cf.parts.l.length 1 8 with
 | false =>
  have h4:Hid (R=false):=HE.out.trans (by rw[q];simp);clear HE kp hx;go_wp2_with (go_at_call 104;refine q1b.mono ?_;rintro _ _ ⟨rfl,rfl⟩)
  all_goals (go_returns;exact⟨⟨20,0,rfl,by rw[h4.out];rfl⟩,b0⟩)
 | true =>
  have h6:cf.parts.l.length<=8:=by unfold inS at q;simp at q;omega
  have hN:=q5q (W:=w1) (w:=w1) (f:=106) (n:=cf.parts.l.length) (g:=g) (q:=λk=>qgp (atD Pt0 cf.parts.l k)) (λa w=>by kernel_rfl) zo bR (λw' k hk hb=>qjg (q53.keep (q53.keep hx.1 b0) hb) (kp.keep hb) hk);have hP:=zhd λ(w':World) (hb:bW w w')=>q9w (q1y.keep hx.2.2.2.1 hb);have hC:=zhd λ(w':World) (hb:bW w w')=>qvo (q1k.keep hx hb);have hM:=zhd λ(w':World) (hb:bW w w')=>qvp (q1k.keep hx hb) zo;have hS:=zhd λ(w':World) (hb:bW w w')=>qnm (qjb.keep hx.2.2.2.2 hb);generalize qee (λk=>qgp (atD Pt0 cf.parts.l k)) cf.parts.l.length=b1 at *;generalize qgm cf.pw=b2 at *;generalize qbh cf=b3 at *;generalize qbi cf=b4 at *;generalize qu0 cf.shed=b5 at *;have h5:=zhd kp;clear kp hx h6;go_wp2_with (first
   | (go_at_call 104;refine q1b.mono ?_;rintro _ _ ⟨rfl,rfl⟩)
   | ((go_at_call 105;refine(hN).mono ?_;rintro _ w2 ⟨⟨z1,k1,rfl,hz1⟩,hB⟩);have h0:=h5.out.keep hB;obtain⟨kc,lg⟩:=h0.cl;have b0:=bt b0 hB)
   | ((go_at_call 108;refine(hP.out _ b0).mono ?_;rintro _ w3 ⟨⟨z2,k2,rfl,hz2⟩,hB⟩);have h1:=h0.keep hB;obtain⟨kc,lg⟩:=h1.cl;have b0:=bt b0 hB)
   | ((go_at_call 109;refine(hC.out _ b0).mono ?_;rintro _ w4 ⟨⟨z3,k3,rfl,hz3⟩,hB⟩);have h2:=h1.keep hB;obtain⟨kc,lg⟩:=h2.cl;have b0:=bt b0 hB)
   | ((go_at_call 110;refine(hM.out _ b0).mono ?_;rintro _ w5 ⟨⟨z4,k4,rfl,hz4⟩,hB⟩);have h3:=h2.keep hB;obtain⟨kc,lg⟩:=h3.cl;have b0:=bt b0 hB)
   | ((go_at_call 111;refine(hS.out _ b0).mono ?_;rintro _ w6 ⟨⟨z5,k5,rfl,hz5⟩,hB⟩);have b0:=bt b0 hB))
  all_goals (go_returns;refine⟨⟨_,_,rfl,?_⟩,b0⟩;rw[HE.out,q])
  all_goals (simp_all;done)
theorem qs8:cP 55 #[.slice A n c] w λe w'=>e = .returned (.bool (decide (64 < n)))/\w=w':=by
 by_cases h:64 < n
 .have b1:decide ((64:Int) < (n:Int))=true:=decide_eq_true zo;rw[decide_eq_true h];clear h;refine inC ?_;go_in;go_wp2_with fail;go_returns;exact⟨rfl,rfl⟩
 .have b1:decide ((64:Int) < (n:Int))=false:=decide_eq_false zo;rw[decide_eq_false h];clear h;refine inC ?_;go_in;go_wp2_with fail;go_returns;exact⟨rfl,rfl⟩
def qhb:Hd St:=⟨none,0,[]⟩
def q40(h:Hd St):Bool:=decide (64 < h.l.length)
theorem qod{h:Hd (Hd St)} (hl:qkn.ok W h) (hw:bW W w) :
  cP 112 #[.slice h.A h.l.length h.c,.func (.func 55) #[] #[]] w λe w'=>(∃ v:Int,e = .returned (ii v)/\decide (0<=v)=h.l.any q40)/\bW W w':=by
 have hn:=hl.1.len;obtain⟨R,hR⟩:∃ R,R=h.l.any q40:=⟨_,rfl⟩
 rw[<- hR];have HR:=zhd hR;clear hR;obtain⟨wo,rfl⟩:∃ wo:World,wo=W:=⟨_,rfl⟩
 refine inC ?_;go_in;go_wp2_with fail;go_loopw [8] (λi wr=>∃ k:Nat,i = .int .i64 k/\k<=h.l.length/\Hid (∀ j,j < k->q40 (atD qhb h.l j)=false)/\bW wo wr) (λi _=>h.l.length - (intOf i).toNat)
 case atStart=>exact⟨0,rfl,Nat.zero_le _,λj hj=>absurd hj (Nat.not_lt_zero j),hw⟩
 case round =>
  obtain⟨k,rfl,hkn,HQ,h0⟩:=hrel;by_cases hk:k < h.l.length
  .obtain⟨sb,so,hA,hsb,h1⟩:=(qkn.keep hl h0).1.at_ qhb hk;rw[show qoa.sz=1 from rfl,Nat.mul_one]at h1
   have s0:wr.cell? ⟨sb,so + k,none⟩=some (.slice (atD qhb h.l k).A (atD qhb h.l k).l.length (atD qhb h.l k).c):=h1 0 _ rfl;clear h1;have HN:Hid (q40 (atD qhb h.l k)=false->∀ j,j < k + 1->q40 (atD qhb h.l j)=false):=λh j hj=>by
    by_cases e:j=k
    .rw[e];exact h
    .exact HQ.out j zo
   have HY:Hid (q40 (atD qhb h.l k)=true->R=true):=λh=>HR.out.trans (qh4 hk h);generalize atD qhb h.l k=x at *;have hP:=qs8 (w:=wr) (A:=x.A) (n:=x.l.length) (c:=x.c);have hw1:wrap64 ((k:Int) + 1)=((k + 1:Nat):Int):=by unfold wrap64;omega
   rw[hA];have he:decide (64 < x.l.length)=q40 x:=rfl;rw[he]at hP
   generalize q40 x=b at *;clear HQ HR hw hl hA he;cases b with
   | true =>
    have h4:=zhd (HY.out rfl);clear HN HY;go_wp2_with (go_at_call 55;refine(hP).mono ?_;rintro _ w8 ⟨rfl,rfl⟩);go_returns;exact⟨⟨k,rfl,by rw[h4.out];simp⟩,h0⟩
   | false =>
    have h2:=zhd (HN.out rfl);clear HN HY;go_wp2_with (go_at_call 55;refine(hP).mono ?_;rintro _ w8 ⟨rfl,rfl⟩);exact⟨⟨k + 1,by go_num,hk,h2,h0⟩,by simp[intOf];omega⟩
  .have h3:Hid (R=false):=HR.out.trans (qnj (d:=qhb) λj hj=>HQ.out j zo);obtain rfl:k=h.l.length:=zo;clear HR HQ hl;go_wp2_with fail;go_returns;exact⟨⟨-1,rfl,by rw[h3.out];rfl⟩,h0⟩
theorem qoe{h:Hd (Hd St)} (hl:qkn.ok w h) :
  cP 54 #[h.hq,.func (.func 55) #[] #[]] w λe w'=>e = .returned (.bool (h.l.any q40))/\bW w w':=by
 have hF:=qod hl bR;generalize h.l.any q40=R at *;clear hl;refine inC ?_;go_in;go_wp2_with (go_at_call 112;refine(hF).mono ?_;rintro _ w2 ⟨⟨v,rfl,hv⟩,hB⟩);go_returns;exact⟨by rw[<- hv];rfl,hB⟩
def qxe(sc:Sc):Bool:=decide (sc.frames.l.length<=64) && !(sc.progs.l.any λh=>h.l.any q40)
def q2d(cf:Cf) (sc:Sc):Bool:=qrl cf && qxe sc
theorem qkq{cf:Cf} {sc:Sc} (hx:q1k.ok w cf) (hs:q73.ok w sc) :
  cP 27 #[.agg (Cf.lw cf),.agg #[.slice sc.progs.A sc.progs.l.length sc.progs.c,.slice sc.frames.A sc.frames.l.length sc.frames.c]] w λe w'=>(∃ z k:Int,e = .returned (.tuple #[ii z,ii k])/\decide (z=0)=q2d cf sc)/\bW w w':=by
 have hE:q2d cf sc=q2d cf sc:=rfl
 conv at hE=>rhs;unfold q2d qxe
 have HE:=zhd hE;clear hE;generalize q2d cf sc=R at *;have b0:bW w ((w.alloc (.cells (Cf.lw cf) 33)).alloc (.cells #[.slice sc.progs.A sc.progs.l.length sc.progs.c,.slice sc.frames.A sc.frames.l.length sc.frames.c] 37)):=zv;have kp:=(Blk.new w 33 (Cf.lw cf)).alloc (.cells #[.slice sc.progs.A sc.progs.l.length sc.progs.c,.slice sc.frames.A sc.frames.l.length sc.frames.c] 37);have ks:=Blk.new (w.alloc (.cells (Cf.lw cf) 33)) 37 #[.slice sc.progs.A sc.progs.l.length sc.progs.c,.slice sc.frames.A sc.frames.l.length sc.frames.c];rw[World.size_alloc]at ks
 have hn:=hs.1.1.len;have hn2:=hs.2.1.len;obtain⟨wo,rfl⟩:∃ wo:World,wo=w:=⟨_,rfl⟩
 refine inC ?_;go_in;go_upto_region 1 with fail;generalize (wo.alloc (.cells (Cf.lw cf) 33)).alloc (.cells #[.slice sc.progs.A sc.progs.l.length sc.progs.c,.slice sc.frames.A sc.frames.l.length sc.frames.c] 37)=w1 at *;obtain⟨g,hg⟩:∃ g,g=wo.heap.size:=⟨_,rfl⟩
 rw[<- hg]at kp ks ⊢
 clear hg;obtain⟨kc,lg⟩:=kp.cl;have hC:=qkp (q1k.keep hx b0);have HS:=zhd hs;have hc:=zhd ks;have h9:=zhd b0;clear kp hx ks hs b0;go_upto_region 2 with ((go_at_call 53;refine(hC).mono ?_;rintro _ w2 ⟨⟨z1,k1,rfl,h2⟩,hB⟩);have h3:=hc.out.keep hB;have d0:=h3.cell 0;have d1:=h3.cell 1;have lg:=h3.lt)
 have h4:=zhd (bt h9.out hB);clear kc hC hB h9 hc;cases hb:qrl cf with
 | false =>
  have h0:Hid (R=false):=HE.out.trans (by rw[hb];rfl);have hz:=quy h2 hb;have b1:decide (z1≠0)=true:=decide_eq_true hz;clear HE h2 hb;go_wp2_with fail
  all_goals (go_returns;exact⟨⟨z1,k1,rfl,by rw[h0.out];simpa using hz⟩,h4.out⟩)
 | true =>
  obtain rfl:=qux h2 hb;have h0:Hid (R=(decide (sc.frames.l.length<=64) && !(sc.progs.l.any λh=>h.l.any q40))):=HE.out.trans (by rw[hb];rfl);clear HE h2 hb;replace d0:w2.cell? ⟨g + 1,0,none⟩=some (.slice sc.progs.A sc.progs.l.length sc.progs.c):=d0;replace d1:w2.cell? ⟨g + 1,1,none⟩=some (.slice sc.frames.A sc.frames.l.length sc.frames.c):=d1;by_cases hf:sc.frames.l.length<=64
  .have h1:Hid (R = !(sc.progs.l.any λh=>h.l.any q40)):=h0.out.trans (by rw[decide_eq_true hf];rfl);clear h0;go_upto_region 7 with fail;have HD:Hid (w2.cell? ⟨g + 1,0,none⟩=some (.slice sc.progs.A sc.progs.l.length sc.progs.c)):=zhd d0;clear d0 d1 h3;go_loopw [26] (λi wr=>∃ k:Nat,i = .int .i64 k/\k<=sc.progs.l.length/\Hid (∀ j,j < k->(atD Pr0 sc.progs.l j).l.any q40=false)/\bW wo wr) (λi _=>sc.progs.l.length - (intOf i).toNat)
   case atStart=>exact⟨0,rfl,Nat.zero_le _,λj hj=>absurd hj (Nat.not_lt_zero j),h4.out⟩
   case round =>
    obtain⟨k,rfl,hkn,HQ,h6⟩:=hrel;by_cases hk:k < sc.progs.l.length
    .have h8:=qh9.keep HS.out.1 h6;obtain⟨sb,so,hA,hsb,h7⟩:=h8.1.at_ Pr0 hk;have hd:=h8.2 _ (q0h (d:=Pr0) hk);rw[show qkn.sz=1 from rfl,Nat.mul_one]at h7
     have s0:wr.cell? ⟨sb,so + k,none⟩=some (.slice (atD Pr0 sc.progs.l k).A (atD Pr0 sc.progs.l k).l.length (atD Pr0 sc.progs.l k).c):=h7 0 _ rfl;have HN:Hid ((atD Pr0 sc.progs.l k).l.any q40=false->∀ j,j < k + 1->(atD Pr0 sc.progs.l j).l.any q40=false):=λh j hj=>by
      by_cases e:j=k
      .rw[e];exact h
      .exact HQ.out j zo
     have HY:Hid ((atD Pr0 sc.progs.l k).l.any q40=true->R=false):=λh=>h1.out.trans (by rw[qh4 (d:=Pr0) (q:=λh=>h.l.any q40) hk h];rfl);have hP:=qoe hd;clear h7 h8 hd;generalize atD Pr0 sc.progs.l k=x at *;have hw1:wrap64 ((k:Int) + 1)=((k + 1:Nat):Int):=by unfold wrap64;omega
     have HK:=zhd hk;have ha:=zhd h6;rw[hA];generalize x.l.any q40=b at *;clear HQ h1 hA;cases b with
     | true =>
      have hm:=zhd (HY.out rfl);clear HN HY;go_wp2_with (go_at_call 54;refine(hP).mono ?_;rintro _ w8 ⟨rfl,h5⟩);go_returns;exact⟨⟨3,k,rfl,by rw[hm.out];rfl⟩,bt ha.out h5⟩
     | false =>
      have he:=zhd (HN.out rfl);clear HN HY;go_wp2_with (go_at_call 54;refine(hP).mono ?_;rintro _ w8 ⟨rfl,h5⟩);exact⟨⟨k + 1,by go_num,HK.out,he,bt ha.out h5⟩,by have:=HK.out;simp[intOf];omega⟩
    .have hh:Hid (R=true):=h1.out.trans (by rw[qnj (d:=Pr0) (q:=λ(h:Hd (Hd St))=>h.l.any q40) λj hj=>HQ.out j zo];rfl);obtain rfl:k=sc.progs.l.length:=zo;clear h1 HQ;go_wp2_with fail;go_returns;exact⟨⟨0,0,rfl,by rw[hh.out];rfl⟩,h6⟩
  .have h1:Hid (R=false):=h0.out.trans (by rw[decide_eq_false hf];rfl);clear h0;go_wp2_with fail
   all_goals first | (exfalso;omega) | (go_returns;exact⟨⟨3,0,rfl,by rw[h1.out];rfl⟩,h4.out⟩)
end Go.Proofs.YtncfcbohiodnnaaGreat
