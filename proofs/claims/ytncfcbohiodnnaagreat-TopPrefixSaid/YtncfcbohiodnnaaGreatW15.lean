/- Parts of this seat's claims. -/
import Derived.Test.YtncfcbohiodnnaaGreatW14
import Derived.Test.YtncfcbohiodnnaaGreatW5
set_option maxRecDepth 100000
set_option maxHeartbeats 6400000
namespace Go.Proofs.YtncfcbohiodnnaaGreat
open Go.RowKit
variable{w w' W wa wo W':World} {c n pt r B j b m mb q base cap id B0:Nat} {A:Option Addr} {a code what:Int} {cs:Array Value}
theorem qv4:ElemOf 456 459 1 8:=q1l (z := .pointer none) zk zk rfl zd zd
def qeq(qs:List Nat):List Value:=qs.map λq=>pp q
theorem q28(qs:List Nat) (q i:Nat):atN (qs ++ [q]) i=if i < qs.length then atN qs i else if i=qs.length then q else atN [] i:=by
 unfold atN;rw[List.getD_eq_getElem?_getD,List.getD_eq_getElem?_getD,List.getD_eq_getElem?_getD,List.getElem?_append];split
 .rfl
 .split
  .rename_i h;subst h;simp
  .rw[List.getElem?_eq_none (by simp;omega)];rfl
structure SnR(wo w:World) (s k:Nat) (A:Option Addr) (c:Nat) (qs:List Nat) (room:Int) (has:List Int):Prop where
 ks:Blk w s 458 #[ii room,.slice A k c,.bool true]
 ka:Own w 459 1 A k c (qeq qs)
 ql:qs.length=k
 q:∀ i,i < k->Blk w (atN qs i) 461 #[ii (at0 has i),.bool false]
 lo:wo.heap.size<=s/\(∀ g,q02 A g->wo.heap.size<=g/\g≠s)/\∀ i,i < k->wo.heap.size<=atN qs i/\atN qs i≠s/\¬ q02 A (atN qs i)
 qq:∀ i j,i < k->j < k->i≠j->atN qs i≠atN qs j
 B:bW wo w
theorem SnR.keep{s k:Nat} {qs:List Nat} {room:Int} {has:List Int} (H:SnR wo w s k A c qs room has) (hb:bW w w'):SnR wo w' s k A c qs room has :=
 ⟨H.ks.keep hb,H.ka.keep hb,H.ql,λi hi=>(H.q i hi).keep hb,H.lo,H.qq,bt H.B hb⟩
theorem SnR.push{w9:World} {s k:Nat} {qs:List Nat} {room:Int} {has:List Int} (R:SnR wo w s k A c qs room has) {q g cap:Nat} (hq:w.heap.size<=q) (kq:Blk w9 q 461 #[ii (at0 has k),.bool false]) (b:Fr (q02 A) w w9)
  (ho:Own w9 459 1 (some ⟨g,0,none⟩) (k + 1) cap (qeq qs ++ #[pp q].toList)) (hg:q02 A g\/w.heap.size<=g) (hgq:g≠q) :
  SnR wo (w9.setCell ⟨s,1,none⟩ (.slice (some ⟨g,0,none⟩) (k + 1) cap)) s (k + 1) (some ⟨g,0,none⟩) cap (qs ++ [q]) room has:=by
 obtain⟨l1,l2,l3⟩:=R.lo;have h3:=R.B.size;have hs9:=b.size;have sA:¬ q02 A s:=λh=>(l2 _ h).2 rfl;have hsl:=R.ks.lt;have h0:g≠s:=hg.elim (λh=>(l2 g h).2) (λh=>by omega);have h1:wo.heap.size<=g:=hg.elim (λh=>(l2 g h).1) (λh=>by omega);have fs:Fr (λk=>k=s) w9 (w9.setCell ⟨s,1,none⟩ (.slice (some ⟨g,0,none⟩) (k + 1) cap)):=(Fr.refl (λk=>k=s) w9).setCell (p:=⟨s,1,none⟩) (λ_=>rfl) _;refine⟨(R.ks.fr b sA).set_ 1 _,?_,by rw[List.length_append,R.ql];rfl,λi hi=>?_,⟨l1,λg' h=>by cases h;exact⟨h1,h0⟩,λi hi=>?_⟩,λi j hi hj hij=>?_,?_⟩
 .have:=ho.fr fs (λk hk h=>by cases hk;exact h0 h);unfold qeq at this ⊢;rw[List.map_append];exact this
 .rw[q28,R.ql];by_cases h:i < k
  .rw[if_pos h];exact((R.q i h).fr b (l3 i h).2.2).fr fs (l3 i h).2.1
  .obtain rfl:i=k:=zo;rw[if_neg h,if_pos rfl];exact kq.fr fs (show ¬ q=s by omega)
 .rw[q28,R.ql];by_cases h:i < k
  .rw[if_pos h];refine⟨(l3 i h).1,(l3 i h).2.1,λh'=>?_⟩;have e:g=atN qs i:=by unfold q02 at h';injection h' with h';injection h'
   rcases hg with hg | hg
   .exact(l3 i h).2.2 (e ▸ hg)
   .have:=(R.q i h).lt;omega
  .obtain rfl:i=k:=zo;rw[if_neg h,if_pos rfl];refine⟨zo,zo,λh'=>hgq ?_⟩;unfold q02 at h';injection h' with h'
   injection h'
 .rw[q28,q28,R.ql];by_cases h:i < k <;> by_cases h2:j < k
  .rw[if_pos h,if_pos h2];exact R.qq i j h h2 hij
  .rw[if_pos h,if_neg h2,if_pos zo];have:=(R.q i h).lt;omega
  .rw[if_neg h,if_pos zo,if_pos h2];have:=(R.q j h2).lt;omega
  .omega
 .exact(R.B.trans (b.below (λk hk h=>by have:=(l2 k h).1;omega) h3)).setCell zo _
def q56(x:Pt):Sk:=⟨max 0 x.cap,x.procs.l.map λp=>max 0 p.cost,x.procs.l.map λ_=>false⟩
def qy3(w:World) (x:Pt) (e:Ending) (w':World):Prop:=∃ s a cap qs,e = .returned (pp s)/\SkR w' s a cap qs (q56 x)/\w.heap.size<=s/\w.heap.size<=a/\(∀ q,q ∈ qs->w.heap.size<=q)/\bW w w'
theorem qqu{x:Pt} (hx:qcu.ok w x) (h0:0 < x.procs.l.length) (h1:x.procs.l.length<=1000):cP 243 #[.agg (Pt.lw x)] w λe w'=>qy3 w x e w':=by
 have hl:=hx.2.1;have hlen:=hl.1.len;have k1:=Blk.new w 51 (Pt.lw x);have ks:=Blk.new (w.alloc (.cells (Pt.lw x) 51)) 458 #[ii (max 0 x.cap),.slice none 0 0,.bool true];rw[World.size_alloc]at ks
 have b0:bW w ((w.alloc (.cells (Pt.lw x) 51)).alloc (.cells #[ii (max 0 x.cap),.slice none 0 0,.bool true] 458)):=zv;replace k1:=k1.alloc (.cells #[ii (max 0 x.cap),.slice none 0 0,.bool true] 458);obtain⟨wo,rfl⟩:∃ wo:World,wo=w:=⟨_,rfl⟩
 refine inC ?_;go_in;go_upto_region 2 with fail;generalize (wo.alloc (.cells (Pt.lw x) 51)).alloc (.cells #[ii (max 0 x.cap),.slice none 0 0,.bool true] 458)=w1 at *;have c1:=k1.cell 1;have hd:=k1.lt;go_wp2_with fail;go_loopw [14] (λi wr=>∃ (k:Nat) (A:Option Addr) (c:Nat) (qs:List Nat),i = .int .i64 k/\k<=x.procs.l.length/\SnR wo wr (wo.heap.size + 1) k A c qs (max 0 x.cap) (q56 x).has) (λi _=>x.procs.l.length - (intOf i).toNat)
 case atStart=>exact⟨0,none,0,[],rfl,Nat.zero_le _,ks,Own.nil _ _ _,rfl,(λi h=>absurd h zo),⟨zo,(λg h=>by cases h),λi h=>absurd h zo⟩,(λi j h=>absurd h zo),b0⟩
 case round =>
  clear ks b0 c1 hd k1;obtain⟨k,A,c,qs,rfl,hkn,R⟩:=hrel;by_cases hk:k < x.procs.l.length
  .obtain⟨sb,so,hA,hsb,h3⟩:=(q8y.keep hl R.B).1.at_ Pc0 hk;have s0:wr.cell? ⟨sb,so + k * 3,none⟩=some (ii (atD Pc0 x.procs.l k).prio):=h3 0 _ rfl;have s1:wr.cell? ⟨sb,so + k * 3 + 1,none⟩=some (ii (atD Pc0 x.procs.l k).per):=h3 1 _ rfl;have s2:wr.cell? ⟨sb,so + k * 3 + 2,none⟩=some (ii (atD Pc0 x.procs.l k).cost):=h3 2 _ rfl;have hw1:wrap64 ((k:Int) + 1)=((k + 1:Nat):Int):=by unfold wrap64;omega
   have hH:at0 (q56 x).has k=max 0 (atD Pc0 x.procs.l k).cost:=by
    unfold q56;rw[q2v (by simpa using hk),q0s hk];simp
   clear h3;generalize atD Pc0 x.procs.l k=p at *;rw[hA];go_upto_region 5 with fail;have b9:bW wr (wr.alloc (.cells (Pc.lw p) 89)):=zv;have kp:=Blk.new wr 89 (Pc.lw p);generalize wr.alloc (.cells (Pc.lw p) 89)=w2 at *;obtain⟨gp,h5⟩:∃ gp,gp=wr.heap.size:=⟨_,rfl⟩
   rw[<- h5]at kp
   rw[<- h5];obtain⟨kpc,lp⟩:=kp.cl;obtain⟨ksc,lsc⟩:=(R.ks.keep b9).cl;clear s0 s1 s2;have hb:¬ q02 A (wo.heap.size + 1):=λh=>(R.lo.2.1 _ h).2 rfl;have hn2:¬ q02 A gp:=λh=>by have:=R.ka.lt h;omega
   clear h5;refine q88 (q02 A) [(9,0),(0,0),(0,0),(2,2)] ?_;simp only[q03,tkO,dpO]
   repeat(go_big_quiet_step (fail))
   refine qwW (λK' hK'=>?_);go_wp2_with fail;have R2:=R.keep b9;clear b9;have h9:bW w2 (w2.drew.alloc (.cells #[ii (max 0 p.cost),.bool false] 461)):=zv;refine zGW (fO h9 _) ?_;clear hK' K';intro K' hK';go_wp2_with fail;have h4:bW w2 ((w2.drew.alloc (.cells #[ii (max 0 p.cost),.bool false] 461)).alloc (.cells #[pp w2.heap.size] 459)):=zv;refine zG (fO h4 _) ?_;clear hK' K';have R3:=R2.keep h4;refine qwW (λK' hK'=>?_);have hc:=(Blk.new w2.drew 461 #[ii (max 0 p.cost),.bool false]).alloc (.cells #[pp w2.heap.size] 459);have h2:=Blk.new (w2.drew.alloc (.cells #[ii (max 0 p.cost),.bool false] 461)) 459 #[pp w2.heap.size];rw[World.size_alloc]at h2
   refine q8a qv4 _ _ _ zr zr R3.ka (w2.heap.size + 1) #[pp w2.heap.size] rfl (by simp[Value.oneCell']) h2 zr zo ?_;intro g cap w9 hown9 hf9 hat9;have f9:=(fO h4 (q02 A)).trans hf9;have h8:=hc.fr hf9 (λh=>absurd (R2.ka.lt h) (Nat.lt_irrefl _));refine hK' _ _ rfl (q01 f9) ?_;clear hK' K';have h7:=R2.ks.fr f9 hb;have ks9c:=h7.cell;have ks9f:=h7.frozen;have ks9l:=h7.lt;refine zN ?_;refine qwB (λK' hK'=>?_);go_wp2_with fail;refine zE ?_;clear hK' K';go_wp2_with fail;rw[<- hH]at h8
   exact⟨⟨k + 1,_,_,_,by go_num,hk,R2.push nL h8 f9 hown9 (hat9.imp id (λh=>by rw[h];simp;omega)) (by rcases hat9 with h | h;have:=R2.ka.lt h;omega;rw[h];simp;omega)⟩,by simp[intOf];omega⟩
  .obtain rfl:k=x.procs.l.length:=zo;go_wp2_with fail;go_returns;obtain⟨g,rfl⟩:∃ g,A=some ⟨g,0,none⟩:=by
    rcases R.ka.2 with ⟨_,h⟩ | ⟨g,cap,cur,e1,_⟩
    .omega
    .cases e1;exact⟨g,rfl⟩
   obtain⟨l1,l2,l3⟩:=R.lo;have h6:(q56 x).has.length=x.procs.l.length:=by simp[q56]
   have ha:∀ i,atD false (q56 x).fin i=false:=λi=>by
    unfold q56 atD;simp only[List.getD_eq_getElem?_getD,List.getElem?_map];cases x.procs.l[i]? <;> rfl
   refine⟨_,g,c,qs,rfl,⟨by rw[h6];exact R.ks,by rw[h6];exact R.ka.sl,λi hi=>by rw[ha];exact R.q i zo,by rw[h6];exact R.ql,by simp[q56],λh=>(l2 g rfl).2 h.symm,λi hi=>⟨(l3 i zo).2.1,λh=>(l3 i zo).2.2 (by rw[h];rfl)⟩,λi j hi hj=>R.qq i j zo zo,zo⟩,l1,(l2 g rfl).1,λq hq=>?_,R.B⟩;obtain⟨i,hi,rfl⟩:=List.getElem_of_mem hq;have:=(l3 i (by have:=R.ql;omega)).1;rwa [show atN qs i=qs[i] by simp[atN,List.getElem?_eq_getElem hi]]at this
inductive Lb where
 | free | data | sys (i:Nat) | cell (p:Nat) | tks (p:Nat) | task (p k:Nat) | tab (p:Nat) | mem (p:Nat) | prs (p:Nat) | prt (p k:Nat) | bx (p k:Nat) | obs (p:Nat) | obj (p i k:Nat) | mon (p:Nat) | slk (p:Nat) | evs (p:Nat)
def Lb.part:Lb->Option Nat
 | .cell p=>some p | .tks p=>some p | .task p _=>some p | .tab p=>some p | .mem p=>some p | .prs p=>some p | .prt p _=>some p | .bx p _=>some p | .obs p=>some p | .obj p _ _=>some p | .mon p=>some p | .slk p=>some p | .evs p=>some p
 | .free=>none | .data=>none | .sys _=>none
abbrev Gh:=Nat->Lb
structure Mv(L:Lb->Prop) (o:Gh) (w:World) (o':Gh) (w':World):Prop where
 f:Fr (λk=>L (o k)) w w'
 a:∀ k,k < w.heap.size->o' k=o k
theorem Mv.refl(L:Lb->Prop) (o:Gh) (w:World):Mv L o w o w:=⟨Fr.refl _ w,λ_ _=>rfl⟩
theorem Mv.trans{L:Lb->Prop} {o o' o'':Gh} {w'':World} (h:Mv L o w o' w') (k:Mv L o' w' o'' w''):Mv L o w o'' w'' :=
 ⟨h.f.trans' k.f λj hj hl=>by rw[h.a j hj]at hl;exact hl,λj hj=>(k.a j (Nat.lt_of_lt_of_le hj h.f.size)).trans (h.a j hj)⟩
theorem Mv.trans'{L L':Lb->Prop} {o o' o'':Gh} {w'':World} (h:Mv L o w o' w') (k:Mv L' o' w' o'' w'') (hs:∀ j,j < w.heap.size->L' (o j)->L (o j)):Mv L o w o'' w'' :=
 ⟨h.f.trans' k.f λj hj hl=>hs j hj (by rw[<- h.a j hj];exact hl),λj hj=>(k.a j (Nat.lt_of_lt_of_le hj h.f.size)).trans (h.a j hj)⟩
theorem Mv.mono{L L':Lb->Prop} {o o':Gh} (h:Mv L o w o' w') (hl:∀ l,L l->L' l):Mv L' o w o' w':=⟨h.f.mono λ_ _=>hl _,h.a⟩
theorem Mv.below{L:Lb->Prop} {o:Gh} (h:bW w w'):Mv L o w o w':=⟨fO h _,λ_ _=>rfl⟩
theorem Mv.of{L:Lb->Prop} {o:Gh} {S:Nat->Prop} (h:Fr S w w') (hs:∀ k,S k->L (o k)):Mv L o w o w':=⟨h.mono λk _=>hs k,λ_ _=>rfl⟩
def lay(w:World) (o:Gh) (l:Lb):Gh:=λk=>if k < w.heap.size then o k else l
theorem q07{o:Gh} {l:Lb} {k:Nat} (h:w.heap.size<=k):lay w o l k=l:=if_neg zo
theorem q0l{o:Gh} {l:Lb} {k:Nat} (h:k < w.heap.size):lay w o l k=o k:=if_pos h
theorem Mv.lay{L:Lb->Prop} {o:Gh} {S:Nat->Prop} (l:Lb) (h:Fr S w w') (hs:∀ k,k < w.heap.size->S k->L (o k)):Mv L o w (lay w o l) w':=⟨h.mono hs,λ_ hk=>q0l hk⟩
section
variable{L:Lb->Prop} {o o':Gh} {w w':World}
def q1t(w:World) (o:Gh) (l:Lb) (g:Nat) (t:TypeId) (cs:Array Value):Prop:=Blk w g t cs/\o g=l
theorem q1t.go{l:Lb} {g:Nat} {t:TypeId} (h:q1t w o l g t cs) (m:Mv L o w o' w') (hl:¬ L l):q1t w' o' l g t cs:=⟨h.1.fr m.f (by rw[h.2];exact hl),(m.a g h.1.lt).trans h.2⟩
def q4q(w:World) (o:Gh) (l:Lb) (e:TypeId) (sz:Nat) (A:Option Addr) (n c:Nat) (xs:List Value):Prop:=Own w e sz A n c xs/\∀ k,q02 A k->o k=l
theorem q4q.go{l:Lb} {e:TypeId} {sz:Nat} {xs:List Value} (h:q4q w o l e sz A n c xs) (m:Mv L o w o' w') (hl:¬ L l):q4q w' o' l e sz A n c xs :=
 ⟨h.1.fr m.f λk hk=>by rw[h.2 k hk];exact hl,λk hk=>(m.a k (h.1.lt hk)).trans (h.2 k hk)⟩
def Dat(w:World) (o:Gh) (h:Hd UInt8):Prop:=SlB w h.A h.l.length h.c h.l/\∀ b f,0 < h.l.length->h.A=some ⟨b,f,none⟩->o b = .data
theorem Dat.go{h:Hd UInt8} (H:Dat w o h) (m:Mv L o w o' w') (hl:¬ L .data):Dat w' o' h :=
 ⟨H.1.fr m.f λb f hn e=>by rw[H.2 b f hn e];exact hl,λb f hn e=>(m.a b (H.1.lt_ hn e)).trans (H.2 b f hn e)⟩
theorem Dat.nil:Dat w o ⟨none,0,[]⟩:=⟨SlB.nil w,λ_ _ h=>absurd h zp⟩
end
theorem q1t.set{o:Gh} {l:Lb} {g:Nat} {t:TypeId} (h:q1t w o l g t cs) (i:Nat) (u:Value):q1t (w.setCell ⟨g,i,none⟩ u) o l g t (cs.setIfInBounds i u):=⟨h.1.set_ i u,h.2⟩
theorem Mv.set1{o:Gh} {w1:World} {l:Lb} (hb:bW w w1) (hq:o q=l) (i:Nat) (v:Value):Mv (λy=>y=l) o w o (w1.setCell ⟨q,i,none⟩ v):=⟨(fO hb _).setCell (p:=⟨q,i,none⟩) (λ_=>hq) v,λ_ _=>rfl⟩
theorem Mv.setC{L:Lb->Prop} {o o':Gh} (h:Mv L o w o' w') {q:Nat} (hq:q < w.heap.size->L (o q)) (i:Nat) (v:Value):Mv L o w o' (w'.setCell ⟨q,i,none⟩ v):=⟨h.f.setCell (p:=⟨q,i,none⟩) hq v,h.a⟩
theorem Own.ne{e t:TypeId} {sz:Nat} {xs:List Value} {g:Nat} (h:Own w e sz A n c xs) (hb:Blk w g t cs) (ht:e≠t):¬ q02 A g:=by
 intro hk;rcases h.2 with ⟨e1,_⟩ | ⟨g',cap,cur,e1,_,h3,_⟩
 .cases e1;cases hk
 .cases e1;cases hk;rw[hb]at h3
  injection h3 with h3
  injection h3 with h3 h4
  exact ht h4.symm
theorem Blk.ne{g g':Nat} {t t':TypeId} {cs':Array Value} (h:Blk w g t cs) (h':Blk w g' t' cs') (ht:t≠t'):g≠g':=by
 rintro rfl;rw[Blk,h]at h'
 injection h' with h'
 injection h' with h1 h2
 exact ht h2
theorem Own.head{e:TypeId} {sz:Nat} {xs:List Value} (h:Own w e sz A n c xs) (hn:0 < n):∃ g,A=some ⟨g,0,none⟩:=by
 rcases h.2 with ⟨_,h⟩ | ⟨g,cap,cur,e1,_⟩
 .omega
 .cases e1;exact⟨g,rfl⟩
theorem q2l{l:List UInt8} (h:SlB w A n c l) (hn:l.length<=1000000) :
  cP 98 #[.slice A n c] w λe w'=>∃ (vA:Option Addr) (vc:Nat),e = .returned (.slice vA n vc)/\SlB w' vA n vc l/\(∀ b f,vA=some ⟨b,f,none⟩->w.heap.size<=b)/\bW w w':=by
 refine(q7g h (by have:=h.2;omega)).mono ?_;rintro _ w' ⟨v,rfl,h1,h2⟩;obtain⟨A,c,rfl,a1,a2⟩:=SlB.of_own h1;exact⟨A,c,rfl,a1,a2,h2⟩
theorem qmx:ElemOf 357 38 1 24:=q1l (z := .slice none 0 0) zk zk rfl zd zd
def q2r{α : Type} (l:List α) (k:Int):Bool:=decide (0<=k) && decide (k < l.length)
theorem qr2{α : Type} {l:List α} {k:Int} : q2r l k=true↔0<=k/\k < l.length:=by simp[q2r]
theorem q0o{α : Type} {l:List α} {k:Int} (h:q2r l k=true):∃ j:Nat,k=j/\j < l.length:=by
 obtain⟨h1,h2⟩:=qr2.1 h;obtain⟨j,rfl⟩:=Int.eq_ofNat_of_zero_le h1;exact⟨j,rfl,zo⟩
inductive Bx where
 | que (l:List (List UInt8)) (d:Int)
 | smp (b:List UInt8) (th fr:Bool)
structure Ps where
 c:Po
 box:Bx
 lost:Int
def Ps0:Ps:=⟨Po0,.smp [] false false,0⟩
def q3q(c:Po):Ps:=⟨c,if c.q then .que [] c.depth else .smp [] false false,0⟩
def q39:Bx->List UInt8->Bx×Bool
 | .que l d,b=>if d<=l.length then (.que l d,false) else (.que (l ++ [b]) d,true)
 | .smp _ _ _,b=>(.smp b true true,true)
def q3a:Bx->List UInt8×Bool×Bx
 | .que [] d=>([],false,.que [] d)
 | .que (b :: l) d=>(b,true,.que l d)
 | .smp b th fr=>(b,th,.smp b th fr)
def qa8(l:List Ps) (k:Int) (q inn:Bool):Bool:=q2r l k && (atD Ps0 l k.toNat).c.q == q && (atD Ps0 l k.toNat).c.inn == inn
def q1m(l:List Ps) (k:Int):Int:=if q2r l k=true then (atD Ps0 l k.toNat).c.size else 0
def q10(l:List Ps) (k:Int) (q:Bool) (b:List UInt8):Int×List Ps :=
 if qa8 l k q false=false then (3,l)
 else if b.length < 1\/(atD Ps0 l k.toNat).c.size < b.length then (2,l)
 else if (q39 (atD Ps0 l k.toNat).box b).2=false then (1,l)
 else (0,l.set k.toNat { atD Ps0 l k.toNat with box:=(q39 (atD Ps0 l k.toNat).box b).1 })
def q44(l:List Ps) (k:Int) (q:Bool):List UInt8×Int×List Ps :=
 if qa8 l k q true=false then ([],3,l)
 else if (q3a (atD Ps0 l k.toNat).box).2.1=false then ([],1,l)
 else ((q3a (atD Ps0 l k.toNat).box).1,0,l.set k.toNat { atD Ps0 l k.toNat with box:=(q3a (atD Ps0 l k.toNat).box).2.2 })
def qbe:Bx->List (List UInt8)×Bx
 | .que l d=>(l,.que [] d)
 | .smp b th true=>([b],.smp b th false)
 | .smp b th false=>([],.smp b th false)
def q0x(l:List Ps) (k:Int):List (List UInt8)×List Ps :=
 if q2r l k=false\/(atD Ps0 l k.toNat).c.inn=true then ([],l)
 else ((qbe (atD Ps0 l k.toNat).box).1,l.set k.toNat { atD Ps0 l k.toNat with box:=(qbe (atD Ps0 l k.toNat).box).2 })
def q0u(l:List Ps) (k:Int) (b:List UInt8):Bool×List Ps :=
 if q2r l k=false\/(atD Ps0 l k.toNat).c.inn=false then (false,l)
 else if (q39 (atD Ps0 l k.toNat).box b).2=false then (false,l.set k.toNat { atD Ps0 l k.toNat with lost:=wrap64 ((atD Ps0 l k.toNat).lost + 1) })
 else (true,l.set k.toNat { atD Ps0 l k.toNat with box:=(q39 (atD Ps0 l k.toNat).box b).1 })
def q3r(l:List Ps):List Ps:=l.map λx=>q3q x.c
def qgy(l:List Po):List Ps:=(l.take 8).map q3q
structure Pq where
 c:Pl
 l:List (List UInt8)
structure Sa where
 size:Int
 b:List UInt8
 sh:Bool
structure Se where
 c:Sm
 n:Int
structure Ob where
 sems:List Se
 flags:List Bool
 pools:List Pq
 slates:List Sa
def Se0:Se:=⟨Sm0,0⟩
def Pq0:Pq:=⟨Pl0,[]⟩
def Sa0:Sa:=⟨0,[],false⟩
def q4r(cf:Pt):Ob:=⟨(cf.sems.l.take 4).map λc=>⟨c,c.first⟩,List.replicate (max 0 (min cf.flags 8)).toNat false,(cf.pools.l.take 4).map λc=>⟨c,[]⟩,(cf.slates.l.take 4).map λn=>⟨n,[],false⟩⟩
def q2z(x:Ob) (k:Int):Int×Ob :=
 if q2r x.sems k=false then (3,x) else if (atD Se0 x.sems k.toNat).n < 1 then (1,x)
 else (0,{ x with sems:=x.sems.set k.toNat { atD Se0 x.sems k.toNat with n:=wrap64 ((atD Se0 x.sems k.toNat).n - 1) } })
def q30(x:Ob) (k:Int):Int×Ob :=
 if q2r x.sems k=false then (3,x) else if (atD Se0 x.sems k.toNat).c.most<=(atD Se0 x.sems k.toNat).n then (6,x)
 else (0,{ x with sems:=x.sems.set k.toNat { atD Se0 x.sems k.toNat with n:=wrap64 ((atD Se0 x.sems k.toNat).n + 1) } })
def q29(x:Ob) (k:Int) (up:Bool):Int×Ob:=if q2r x.flags k=false then (3,x) else (0,{ x with flags:=x.flags.set k.toNat up })
def qdy(x:Ob) (k:Int):Bool×Int:=if q2r x.flags k=false then (false,3) else (atD false x.flags k.toNat,0)
def q45(x:Ob) (k:Int) (b:List UInt8):Int×Ob :=
 if q2r x.pools k=false then (3,x) else if ¬ (0 < b.length/\b.length<=(atD Pq0 x.pools k.toNat).c.size) then (2,x)
 else if (atD Pq0 x.pools k.toNat).c.depth<=(atD Pq0 x.pools k.toNat).l.length then (1,x)
 else (0,{ x with pools:=x.pools.set k.toNat { atD Pq0 x.pools k.toNat with l:=(atD Pq0 x.pools k.toNat).l ++ [b] } })
def q3b(x:Ob) (k:Int):List UInt8×Int×Ob :=
 if q2r x.pools k=false then ([],3,x) else match (atD Pq0 x.pools k.toNat).l with
  | []=>([],1,x)
  | b :: l=>(b,0,{ x with pools:=x.pools.set k.toNat { atD Pq0 x.pools k.toNat with l:=l } })
def q2a(x:Ob) (k:Int) (b:List UInt8):Int×Ob :=
 if q2r x.slates k=false then (3,x) else if ¬ (0 < b.length/\b.length<=(atD Sa0 x.slates k.toNat).size) then (2,x)
 else (0,{ x with slates:=x.slates.set k.toNat { atD Sa0 x.slates k.toNat with b:=b,sh:=true } })
def q35(x:Ob) (k:Int):List UInt8×Int:=if q2r x.slates k=false then ([],3) else if (atD Sa0 x.slates k.toNat).sh=false then ([],1) else ((atD Sa0 x.slates k.toNat).b,0)
def q3s(x:Ob) (k:Int):Int×Ob:=if q2r x.slates k=false then (3,x) else (0,{ x with slates:=x.slates.set k.toNat { atD Sa0 x.slates k.toNat with b:=[],sh:=false } })
def q0t(x:Ob) (p s:Int):Int:=if 0<=s then (if q2r x.slates s=true then (atD Sa0 x.slates s.toNat).size else 0) else if q2r x.pools p=true then (atD Pq0 x.pools p.toNat).c.size else 0
structure St where
 cyc:Int
 call:Int
 a:Int
 b:Int
 c:Int
 d:Int
abbrev St.lw (x:St):Array Value:=#[.int .i64 x.cyc,.int .i64 x.call,.int .i64 x.a,.int .i64 x.b,.int .i64 x.c,.int .i64 x.d]
def St.f(x:St):List Value:=[ii x.cyc,ii x.call,ii x.a,ii x.b,ii x.c,ii x.d]
def St.ok(x:St):Prop:=i64 x.cyc/\i64 x.call/\i64 x.a/\i64 x.b/\i64 x.c/\i64 x.d
def St0:St:=⟨0,0,0,0,0,0⟩
structure Ev where
 part:Int
 win:Int
 proc:Int
 call:Int
 code:Int
 value:Int
def Ev.f(x:Ev):List Value:=[ii x.part,ii x.win,ii x.proc,ii x.call,ii x.code,ii x.value]
structure Tk where
 prog:List St
 at_:Nat
 rest:Int
 addr:Int
 data:List UInt8
 done:Bool
def Tk0:Tk:=⟨[],0,0,0,[],false⟩
def Tk.step(t:Tk):St:=atD St0 t.prog t.at_
def Tk.set(t:Tk) (k:Nat):Tk:={ t with at_:=k % t.prog.length,rest:=q8n (atD St0 t.prog (k % t.prog.length)).cyc 1 1073741824 }
structure Ce where
 cf:Pt
 part:Int
 mode:Int
 win:Int
 tk:List Tk
 tab:List Rw
 tn:Int
 bs:List (List UInt8)
 pts:List Ps
 obs:Ob
 slk:Option Sk
 evs:List Ev
def Sk0:Sk:=⟨0,[],[]⟩
def Ce.sk(s:Ce):Sk:=s.slk.getD Sk0
def Ce.segs(s:Ce):List Me.Sg:=(s.cf.regs.l.map λr=>(⟨r.base,r.size,r.wr⟩:Me.Sg)).take 4
def q0i(s:Ce) (k call code v:Int):Ce:={ s with evs:=s.evs ++ [⟨s.part,s.win,k,call,code,v⟩] }
def q1d(s:Ce) (k:Nat) (t:Tk):Ce:={ s with tk:=s.tk.set k t }
def q6a(s:Ce) (x:List Rw×Int):Ce:={ s with tab:=x.1,tn:=x.2 }
def q0m(s:Ce) (k:Nat) (win:Int):Ce :=
 let s1:=q1d s k { (atD Tk0 s.tk k).set 0 with data:=[] }
 let s2:=q6a s1 (q6n s1.tab s1.tn k win).2
 if (atD Tk0 s.tk k).done=true then { s2 with tab:=(qa1 s2.tab k).2 } else s2
def q2e(s:Ce) (k:Nat):Ce :=
 let s1:=q1d s k { atD Tk0 s.tk k with data:=[] }
 q6a s1 (setS s1.tab s1.tn k 0).2
def q57(s:Ce) (k:Nat):Ce :=
 let s1:=q1d s k { atD Tk0 s.tk k with done:=true }
 {s1 with tab:=(qa1 s1.tab k).2,slk:=some (qqt s1.sk k) }
def q1h(f:Ce->Nat->Ce) (s:Ce) (n:Nat):Ce:=(List.range n).foldl f s
theorem q1p(f:Ce->Nat->Ce) (s:Ce) (n:Nat):q1h f s (n + 1)=f (q1h f s n) n:=by unfold q1h;rw[List.range_succ,List.foldl_append];rfl
def qes(s:Ce):Ce:=q1h q2e { s with mode:=0 } s.tk.length
def q2s(s:Ce) (cold:Bool):Ce :=
 let s1:={ s with bs:=if cold=true then s.bs.map Me.zl else s.bs,obs:=q4r s.cf,pts:=q3r s.pts }
 q1h (λs k=>q0m s k s.win) (q1h q2e s1 s.tk.length) s.tk.length
def q1c(s:Ce) (kind:Int) (k:Nat):Ce :=
 let act:=q6p s.cf.acts.l kind
 let s1:=q0i s k (wrap64 (-1 - kind)) act 0
 if act=1 then q2e s1 k
 else if act=2 then q0m (q2e s1 k) k s1.win
 else if act=3 then q2s s1 true
 else if act=4 then qes s1 else s1
def q09(s:Ce) (k:Nat) (call code v:Int):Ce :=
 let s1:=q0i s k call code v
 let s2:=q1d s1 k { atD Tk0 s1.tk k with data:=[] }
 q6a s2 (setS s2.tab s2.tn k 1).2
def q3t(s:Ce) (a:Int) (b:List UInt8):Ce:={ s with bs:=(Me.storeR s.segs s.bs a b).1 }
def q15(s:Ce) (k:Nat) (call:Int) (b:List UInt8):Ce:=q09 (q3t s (atD Tk0 s.tk k).addr b) k call 0 b.length
def q3u(f:Ce->Option Ce):Nat->Ce->Ce
 | 0,s=>s
 | n + 1,s=>match f s with | none=>s | some s'=>q3u f n s'
def q0e(s:Ce) (call what:Int):Int:=q22 (q6o call what) s.tab s.tab.length
def q7h(s:Ce):Int:=q22 q4n s.tab s.tab.length
def q12(p:Int) (s:Ce):Option Ce :=
 if q0e s 11 p < 0 then none
 else if (q10 s.pts p true (atD Tk0 s.tk (q0e s 11 p).toNat).data).1≠0 then none
 else some (q09 { s with pts:=(q10 s.pts p true (atD Tk0 s.tk (q0e s 11 p).toNat).data).2 } (q0e s 11 p).toNat 11 0 0)
def q1z(s:Ce) (p:Int):Ce:=q3u (q12 p) (s.tab.length + 1) s
def q13(p:Int) (s:Ce):Option Ce :=
 if q0e s 12 p < 0 then none
 else if (q44 s.pts p true).2.1≠0 then none
 else some (q15 { s with pts:=(q44 s.pts p true).2.2 } (q0e s 12 p).toNat 12 (q44 s.pts p true).1)
def q2m(s:Ce) (p:Int):Ce:=q3u (q13 p) (s.tab.length + 1) s
def q1q(call p:Int) (s:Ce):Option Ce:=if q0e s call p < 0 then none else some (q09 s (q0e s call p).toNat call 0 0)
def q1r(p:Int) (b:List UInt8) (s:Ce):Option Ce:=if q0e s 21 p < 0 then none else some (q15 s (q0e s 21 p).toNat 21 b)
def q0c(s:Ce):Ce :=
 let r:=q5u s.win s.tab s.tn s.tab.length
 let s1:=q6a s (r.l,r.tn)
 let s2:=r.rel.foldl (λs k=>q0i s k 1 0 0) s1
 r.mis.foldl (λs k=>if s.mode=3 then q1c s 4 k.toNat else s) s2
def qd8(s:Ce) (k:Int):Ce:=q09 s k.toNat (q3o s.tab k).1.call (if (q3o s.tab k).1.call=2 then 0 else 5) 0
def q36(s:Ce):Ce:=(qbc (qdw s.win) s.tab s.tab.length).foldl qd8 s
def q0p(s:Ce):Option Ce :=
 if s.mode≠3 then none
 else if q7h s < 0\/0 < at0 s.sk.has (q7h s).toNat then none
 else some (q1c (q57 s (q7h s).toNat) 0 (q7h s).toNat)
def q2n(s:Ce):Ce:=q3u q0p (s.tk.length + 1) s
def qn2(s:Ce):Ce:=(List.range 8).foldl (λs (p:Nat)=>q2m (q1z s p) p) s
def q2g(s:Ce):Ce :=
 let s1:={ s with win:=wrap64 (s.win + 1),slk:=some (q56 s.cf),tab:=qd0 s.tab,tk:=s.tk.map λt=>{ t with done:=false } }
 if s1.mode≠3 then s1 else q2n (q36 (qn2 (q0c s1)))
def q06(s:Ce):Int:=if s.slk.isNone=true\/s.mode≠3 then -1 else q7h s
def q58(s:Ce):Int:=if q06 s < 0 then 0 else min (min (atD Tk0 s.tk (q06 s).toNat).rest (at0 s.sk.has (q06 s).toNat)) s.sk.room
def qgz(s:Ce):Int:=if q06 s < 0 then 0 else qgu s.sk
def q0n(s:Ce) (k:Nat) (x:St) (code:Int):Ce:=q0i s k x.call code 0
def qaa(s:Ce) (k:Nat) (x:St):Ce :=
 let per:=decide (0 < (atD Pc0 s.cf.procs.l k).per)
 if x.call=1/\per=false\/x.call=3/\per=true then q0n s k x 4
 else if x.call=1 then q57 (q6a s (setS s.tab s.tn k 4).2) k
 else if x.call=3 then let s1:=q0n s k x 0;q6a s1 (setS s1.tab s1.tn k 3).2
 else if x.a < 1\/1000 < x.a then q0n s k x 2
 else q57 (q6a s (qbb s.tab s.tn k x.call 0 (wrap64 (s.win + x.a))).2) k
def q4a(s:Ce) (k:Nat) (x:St):Ce :=
 if x.call=1\/x.call=2\/x.call=3 then qaa s k x
 else if q2r s.tk x.a=false\/x.call=4/\x.a=k\/x.call=7/\(x.b < 0\/63 < x.b) then q0n s k x 2
 else
  let st:=(q3o s.tab x.a).1.state
  if x.call=7/\st=0 then q0n s k x 4
  else if x.call=7 then q0n { s with tab:=(qek s.tab x.a x.b).2 } k x 0
  else if x.call=4/\st=3 then q0n (q6a s (setS s.tab s.tn x.a 1).2) k x 0
  else if x.call=5/\st=0 then q0n (q0m s x.a.toNat s.win) k x 0
  else if x.call=6/\st≠0 then q0n (q2e s x.a.toNat) k x 0
  else q0n s k x 6
def q7i(s:Ce) (k:Nat) (x:St) (b:List UInt8):Ce :=
 if x.d=0 then q0n s k x 1
 else
  let s1:=q1d s k { atD Tk0 s.tk k with addr:=x.b,data:=b }
  q6a s1 (qbb s1.tab s1.tn k x.call x.a (if 0 < x.d then wrap64 (s.win + min x.d 1000) else -1)).2
def qet(s:Ce) (k:Nat) (x:St):Ce:=q1c (q0n s k x 8) 2 k
def q3c(s:Ce) (k:Nat) (x:St) (size:Int):List UInt8×Bool×Ce :=
 if x.c < 1\/size < x.c then ([],false,q0n s k x 2)
 else ((Me.loadR s.segs s.bs x.b x.c).1,(Me.loadR s.segs s.bs x.b x.c).2,if (Me.loadR s.segs s.bs x.b x.c).2=true then s else qet s k x)
def qg9(s:Ce) (x:St) (size:Int):Bool:=(Me.fdF s.segs s.bs x.b size true).isSome
def qr4(s:Ce) (k:Nat) (x:St) (size:Int):Ce:=if qg9 s x size=true then s else qet s k x
def qn3(s:Ce) (k:Nat) (x:St) (b:List UInt8) (code:Int):Ce :=
 if code=0 then q0i (q3t s x.b b) k x.call 0 b.length
 else if x.call=10 then q0n s k x code
 else q7i s k x []
def q3d(s:Ce) (k:Nat) (x:St):Ce :=
 let q:=decide (x.call=11\/x.call=12)
 let inn:=decide (x.call=10\/x.call=12)
 let size:=q1m s.pts x.a
 if qa8 s.pts x.a q inn=false then q0n s k x 3
 else if inn=true then
  if qg9 s x size=false then qet s k x
  else qn3 { s with pts:=(q44 s.pts x.a q).2.2 } k x (q44 s.pts x.a q).1 (q44 s.pts x.a q).2.1
 else
  let r:=q3c s k x size
  if r.2.1=false then r.2.2
  else if q=false then q0n { r.2.2 with pts:=(q10 r.2.2.pts x.a false r.1).2 } k x (q10 r.2.2.pts x.a false r.1).1
  else if (q10 r.2.2.pts x.a true r.1).1=0 then q0n { r.2.2 with pts:=(q10 r.2.2.pts x.a true r.1).2 } k x 0
  else q7i r.2.2 k x r.1
def q8q(s:Ce) (k:Nat) (x:St) (code:Int):Ce:=if code=1 then q7i s k x [] else q0n s k x code
def q0y(s:Ce) (k:Nat) (x:St):Ce :=
 if x.call=13 then q8q { s with obs:=(q2z s.obs x.a).2 } k x (q2z s.obs x.a).1
 else if x.call=14 then
  if 0<=q0e s 13 x.a then let s1:=q0n s k x 0;q09 s1 (q0e s 13 x.a).toNat 13 0 0
  else q0n { s with obs:=(q30 s.obs x.a).2 } k x (q30 s.obs x.a).1
 else if x.call=15 then
  let s1:=q0n { s with obs:=(q29 s.obs x.a true).2 } k x (q29 s.obs x.a true).1
  q3u (q1q 17 x.a) (s1.tab.length + 1) s1
 else if x.call=16 then q0n { s with obs:=(q29 s.obs x.a false).2 } k x (q29 s.obs x.a false).1
 else q8q s k x (if (qdy s.obs x.a).2=0/\(qdy s.obs x.a).1=false then 1 else (qdy s.obs x.a).2)
def q5e(k n most:Int):Bool:=decide (0<=k) && decide (k < min n most)
def q5v(s:Ce) (p:Int):Ce :=
 if q0e s 18 p < 0 then s
 else
  let r:=q45 s.obs p (atD Tk0 s.tk (q0e s 18 p).toNat).data
  if r.1≠0 then { s with obs:=r.2 } else q09 { s with obs:=r.2 } (q0e s 18 p).toNat 18 0 0
def q8z(s:Ce) (k:Nat) (x:St):Ce :=
 let size:=q0t s.obs x.a (-1)
 if q5e x.a s.cf.pools.l.length 4=false then q0n s k x 3
 else if x.call=19 then
  if qg9 s x size=false then qet s k x
  else
   let r:=q3b s.obs x.a
   let s1:=qn3 { s with obs:=r.2.2 } k x r.1 r.2.1
   if r.2.1=0 then q5v s1 x.a else s1
 else
  let r:=q3c s k x size
  if r.2.1=false then r.2.2
  else if 0<=q0e r.2.2 19 x.a then q15 (q0n r.2.2 k x 0) (q0e r.2.2 19 x.a).toNat 19 r.1
  else
   let p:=q45 r.2.2.obs x.a r.1
   if p.1=0 then q0n { r.2.2 with obs:=p.2 } k x 0 else q7i { r.2.2 with obs:=p.2 } k x r.1
def q2h(s:Ce) (k:Nat) (x:St):Ce :=
 if q5e x.a s.cf.slates.l.length 4=false then q0n s k x 3
 else
  let size:=q0t s.obs 0 x.a
  if x.call=22 then q0n { s with obs:=(q3s s.obs x.a).2 } k x (q3s s.obs x.a).1
  else if x.call=21 then
   if qg9 s x size=false then qet s k x else qn3 s k x (q35 s.obs x.a).1 (q35 s.obs x.a).2
  else
   let r:=q3c s k x size
   if r.2.1=false then r.2.2
   else
    let s1:=q0n { r.2.2 with obs:=(q2a r.2.2.obs x.a r.1).2 } k x (q2a r.2.2.obs x.a r.1).1
    q3u (q1r x.a r.1) (s1.tab.length + 1) s1
def q59(s:Ce) (k:Nat) (x:St):Ce :=
 if x.call=25 then
  let s1:=q3t s x.a (Me.putB x.b)
  if (Me.storeR s.segs s.bs x.a (Me.putB x.b)).2=false then qet s1 k x else q0i s1 k x.call 0 0
 else if (Me.loadR s.segs s.bs x.a 4).2=false then qet s k x else q0i s k x.call 0 (Me.val4 (Me.loadR s.segs s.bs x.a 4).1)
def q5w(s:Ce) (k:Nat) (x:St):Ce :=
 if x.a=0 then qes (q0n s k x 0)
 else if x.a=1\/x.a=2 then q2s (q0n s k x 0) (x.a == 1)
 else if x.a=3 then q0n s k x 6
 else q0n s k x 2
def q2o(s:Ce) (k:Nat) (x:St):Ce :=
 if 1<=x.call/\x.call<=7 then q4a s k x
 else if x.call=8 then q0i s k x.call 0 s.win
 else if 9<=x.call/\x.call<=12 then q3d s k x
 else if 13<=x.call/\x.call<=17 then q0y s k x
 else if x.call=18\/x.call=19 then q8z s k x
 else if 20<=x.call/\x.call<=22 then q2h s k x
 else if x.call=23 then q1c (q0i s k x.call 0 x.a) 3 k
 else if x.call=24\/x.call=25 then q59 s k x
 else if x.call=26 then q0i s k x.call 0 s.mode
 else if x.call=27 then q5w s k x
 else q1c (q0i s k x.call 7 0) 1 k
def q5x(s:Ce) (n:Int):Int:=min n (q58 s)
def q0q(s:Ce) (k:Nat) (m:Int):Ce :=
 let t:=atD Tk0 s.tk k
 {s with slk:=some (q21 s.sk k m).2,tk:=s.tk.set k { t with rest:=wrap64 (t.rest - m) } }
def qb3(s:Ce) (n:Int):Ce :=
 if q5x s n < 1 then s
 else
  let k:=(q06 s).toNat
  let s1:=q0q s k (q5x s n)
  let t:=atD Tk0 s1.tk k
  q2n (if t.rest=0 then q2o (q1d s1 k (t.set (t.at_ + 1))) k t.step else s1)
def q90(progs:List (List St)) (k:Nat):Tk:={ Tk0 with prog:=if k < progs.length/\0 < (atD [] progs k).length then atD [] progs k else [⟨1,3,0,0,0,0⟩] }
def qab(cf:Pt) (part:Int) (progs:List (List St)):Ce :=
 ⟨cf,part,3,-1,(List.range (qd1 cf.procs.l).length).map (q90 progs),qd1 cf.procs.l,0,((cf.regs.l.map λr=>(⟨r.base,r.size,r.wr⟩:Me.Sg)).take 4).map Me.z0,qgy cf.ports.l,q4r cf,none,[]⟩
def q8b(cf:Pt) (part:Int) (progs:List (List St)):Ce :=
 q1h (λs k=>q0m s k 0) (qab cf part progs) (qd1 cf.procs.l).length
def qf0(c:Int->Int->Int):List Int->Int
 | []=>0
 | x :: l=>l.foldl (λm y=>if c y m < 0 then y else m) x
def q8r(p:Pw) (x:Ls) (en:Int):List Int:=if qh1 p x=true then ((List.range p.levels.l.length).filter λj=>decide (q7l p x j<=en)).map λ(j:Nat)=>(j:Int) else []
def qib(p:Pw) (x:Ls) (en:Int):Int:=if (q8r p x en).length=0 then -1 else qf0 (λa b=>wrap64 (q4s p x a.toNat - q4s p x b.toNat)) (q8r p x en)
def qf1(p:Pw) (x:Ls) (en ch:Int):Int:=if ch < 1\/(q8r p x en).length=0 then qib p x en else at0 (q8r p x en) (((ch - 1) % (q8r p x en).length).toNat)
def qf2(p:Pw) (now en:Int):Bool:=qgm p && decide (0<=now) && decide (now<=en) && decide (en<=1152921504606846976)
def q5f(x:Np) (now en:Int):Int:=wrap64 (wrap64 (wrap64 (en - now) - x.enter) - x.wake)
def q5h(p:Pw) (x:Np) (now en:Int):Int:=if q5f x now en < 0 then 0 else (qje p.slow p.ppm (q5f x now en)).1
def q1a(p:Pw) (k now en:Int):Int:=if qf2 p now en=false\/k < 0\/(p.naps.l.length:Int)<=k then 0 else q5h p (atD Np0 p.naps.l k.toNat) now en
def q6l(p:Pw) (now en:Int):List Int:=((List.range p.naps.l.length).filter λ(j:Nat)=>decide (0 < q1a p j now en)).map λ(j:Nat)=>(j:Int)
def q6b(p:Pw) (x:Np) (now en:Int):Int :=
 if (q0j p.slow 0 (q5h p x now en)).2≠0\/q5f x now en < (q0j p.slow 0 (q5h p x now en)).1 then q5f x now en else (q0j p.slow 0 (q5h p x now en)).1
def q31(p:Pw) (k:Int) (now en:Int):Int :=
 let x:=atD Np0 p.naps.l k.toNat
 wrap64 (wrap64 (wrap64 (p.change * wrap64 (x.enter + x.wake)) + wrap64 (x.power * q6b p x now en)) + wrap64 (p.idle * wrap64 (q5f x now en - q6b p x now en)))
def qf3(p:Pw) (now en:Int):Int :=
 if (q6l p now en).length=0\/1099511627776 < wrap64 (en - now) then -1
 else
  let b:=qf0 (λa b=>wrap64 (q31 p a now en - q31 p b now en)) (q6l p now en)
  if wrap64 (p.idle * wrap64 (en - now))<=q31 p b now en then -1 else b
def q37(p:Pw) (now en ch:Int):Int:=if ch < 1 then qf3 p now en else at0 (-1 :: q6l p now en) (((ch - 1) % ((q6l p now en).length + 1:Nat)).toNat)
structure Bd where
 due:Int
 at_:Int
 part:Int
def Bd.f(x:Bd):List Value:=[ii x.due,ii x.at_,ii x.part]
structure Mg where
 chan:Int
 win:Int
 data:List UInt8
structure Gv where
 base:Int
 done:Int
 pl:Pn
 first:Int
 n:Int
 drift:Int
def q05(g:Gv):Int×Gv:=if g.first < 1 then (0,g) else (wrap64 (wrap64 (min g.first 1000000 + wrap64 (g.n + 1)) - 1),{ g with n:=wrap64 (g.n + 1) })
def q2p(c:Pw) (g:Gv) (u:Int):Gv :=
 if u<=g.pl.now then g
 else
  let g1:=(q05 g).2
  let k:=q37 c g.pl.now u (q05 g).1
  let g2:=if 0<=k then { g1 with pl:=(qex c g1.pl k (q1a c k g1.pl.now u) g1.drift).2 } else g1
  if g2.pl.now < u then { g2 with pl:=(q7k c g2.pl u).2 } else g2
def qf4(g:Gv):Gv:={ g with pl:={ g.pl with base:=g.pl.now,done:=0 },base:=g.pl.now,done:=0 }
def q7m(c:Pw) (g:Gv) (left en:Int):Int :=
 let k:=qf1 c ⟨g.pl.now,g.base,g.done,g.pl.level,left⟩ en (q05 g).1
 if k < 0 then wrap64 (c.levels.l.length - 1) else k
def qtx(c:Pw) (g:Gv) (part n left en:Int):Gv :=
 let k:=q7m c g left en
 let g1:=(q05 g).2
 let g2:=if k≠g.pl.level then { g1 with pl:=(turnS c g1.pl k).2,base:=(turnS c g1.pl k).2.now,done:=0 } else g1
 {g2 with pl:=(qi9 c g2.pl part n).2,done:=wrap64 (g2.done + n) }
structure Sy where
 evs:List Ev
 msgs:List Mg
 bounds:List Bd
 sheds:List Int
 modes:List Int
 creds:List (List Int)
 late:Int
 g:Gv
 cs:List Ce
 seen:List Nat
 cy:List Int
def Ce0:Ce:=⟨Pt0,0,0,0,[],[],0,[],[],⟨[],[],[],[]⟩,none,[]⟩
def q1w(s:Sy) (due part:Int):Sy:={ s with bounds:=s.bounds ++ [⟨due,s.g.pl.now,part⟩],late:=if due < s.g.pl.now then wrap64 (s.late + 1) else s.late }
def q5y(cf:Cf) (s:Sy) (p:Nat):Int:=q6m cf s.cy p (q58 (atD Ce0 s.cs p))
def q5z(cf:Cf) (p:Nat) (en:Int) (s:Sy):Sy :=
 let n:=q5y cf s p
 let c:=atD Ce0 s.cs p
 {s with g:=qtx cf.pw s.g p n (qgz c) en,cs:=s.cs.set p (qb3 c n),cy:=(q5r cf s.cy p (if q5x c n < 1 then 0 else q5x c n)).2 }
def q3e(cf:Cf) (p:Nat) (en:Int):Nat->Sy->Sy
 | 0,s=>s
 | n + 1,s=>if q5y cf s p < 1 then s else q3e cf p en n (q5z cf p en s)
def q2t(s:Sy) (p:Nat):Sy:={ s with evs:=s.evs ++ (atD Ce0 s.cs p).evs.drop (s.seen.getD p 0),seen:=s.seen.set p (atD Ce0 s.cs p).evs.length }
def q5i(cf:Cf) (s:Sy) (p:Nat) (en:Int):Sy :=
 let s1:={ s with cs:=s.cs.set p (q2g (atD Ce0 s.cs p)),g:=qf4 s.g }
 q2t (q3e cf p en ((atD Ce0 s1.cs p).sk.room.toNat + 1) s1) p
def q6v(cf:Cf) (p:Int):List Nat:=(List.range (min cf.chans.l.length 16)).filter λk=>(atD Ch0 cf.chans.l k).fr.part == p
def q2i(cf:Cf) (win:Int):List Nat->List (Int×List (List UInt8))->List Ps->List Mg->List Mg×List Ps
 | [],_,l,out=>(out,l)
 | k :: ks,seen,l,out =>
  let pt:=(atD Ch0 cf.chans.l k).fr.port
  match seen.lookup pt with
  | some bs=>q2i cf win ks seen l (out ++ bs.map λb=>⟨k,win,b⟩)
  | none=>q2i cf win ks (seen ++ [(pt,(q0x l pt).1)]) (q0x l pt).2 (out ++ (q0x l pt).1.map λb=>⟨k,win,b⟩)
def setPts(s:Ce) (l:List Ps):Ce:={ s with pts:=l }
def q0v(cf:Cf) (cs:List Ce) (m:Mg):List Ce :=
 if m.chan < 0\/((min cf.chans.l.length 16:Nat):Int)<=m.chan then cs
 else
  let x:=atD Ch0 cf.chans.l m.chan.toNat
  if x.to.part < 0\/(cs.length:Int)<=x.to.part then cs
  else cs.set x.to.part.toNat (setPts (atD Ce0 cs x.to.part.toNat) (q0u (atD Ce0 cs x.to.part.toNat).pts x.to.port m.data).2)
def q7n(cf:Cf) (s:Sy) (p:Nat):Sy :=
 let r:=q2i cf (atD Ce0 s.cs p).win (q6v cf p) [] (atD Ce0 s.cs p).pts []
 let ms:=r.1.take 4096
 {s with msgs:=s.msgs ++ ms,cs:=ms.foldl (q0v cf) (s.cs.set p (setPts (atD Ce0 s.cs p) r.2)) }
def qbf(cf:Cf) (s:Sy) (x:Wn) (at_:Int) (rests:Bool):Sy :=
 let fr:=wrap64 (at_ + x.start)
 let u:=wrap64 (fr + x.len)
 let s1:=q1w { s with g:=q2p cf.pw s.g fr } fr x.part
 let s2:=if rests=true then s1 else q5i cf s1 x.part.toNat u
 let s3:=q1w { s2 with g:=q2p cf.pw s2.g u } u (-1)
 if rests=true then s3 else q7n cf s3 x.part.toNat
end Go.Proofs.YtncfcbohiodnnaaGreat
