/- Parts of this seat's claims. -/
import Derived.Test.YtncfcbohiodnnaaGreatW13
set_option maxRecDepth 100000
set_option maxHeartbeats 6400000
namespace Go.Proofs.YtncfcbohiodnnaaGreat
open Go.RowKit
variable{w w' W wa wo W':World} {c n pt r B j b m mb q base cap id B0:Nat} {A:Option Addr} {a code what:Int} {cs:Array Value}
def q02(A:Option Addr):Nat->Prop:=λk=>A=some ⟨k,0,none⟩
noncomputable instance (A:Option Addr):DecidablePred (q02 A):=λ_=>Classical.propDecidable _
def Own(w:World) (e:TypeId) (sz:Nat) (A:Option Addr) (n c:Nat) (xs:List Value):Prop:=w.ownsRow 0 e sz (.slice A n c) n xs
section
variable{w w':World} {e:TypeId} {sz:Nat} {A:Option Addr} {n c:Nat} {xs:List Value}
theorem Own.nil(w:World) (e:TypeId) (sz:Nat):Own w e sz none 0 0 []:=World.ownsRow_nil _ _ _ _
theorem Own.sl(h:Own w e sz A n c xs):Sl w A n c sz xs:=by
 obtain⟨A',c',e1,e2,_⟩:=Sl.of_own h;cases e1;exact e2
theorem Own.blk(h:Own w e sz A n c xs) {k:Nat} (hk:(Value.slice A n c).ownBlock=some k):q02 A k:=by
 rcases h.2 with ⟨e1,_⟩ | ⟨g,cap,cur,e1,_⟩
 .cases e1;cases hk
 .cases e1;cases hk;rfl
theorem Own.fr{S:Nat->Prop} (h:Own w e sz A n c xs) (hf:Fr S w w') (hS:∀ k,q02 A k->¬ S k):Own w' e sz A n c xs:=q5d h hf λk _ hk=>hS k (h.blk hk)
theorem Own.keep(h:Own w e sz A n c xs) (hf:bW w w'):Own w' e sz A n c xs:=q74 h hf
theorem Own.lt(h:Own w e sz A n c xs) {k:Nat} (hk:q02 A k):k < w.heap.size:=by
 rcases h.2 with ⟨e1,_⟩ | ⟨g,cap,cur,e1,_,h3,_⟩
 .cases e1;cases hk
 .cases e1;cases hk;exact(Array.getElem?_eq_some_iff.1 h3).1
theorem Own.of{v:Value} (h:w.ownsRow base e sz v n xs):∃ A c,v = .slice A n c/\Own w e sz A n c xs/\∀ k,q02 A k->base<=k:=by
 obtain⟨A,c,rfl,_,h3⟩:=Sl.of_own h;exact⟨A,c,rfl,qcm h (Nat.zero_le _),λk hk=>h3 k 0 hk⟩
end
structure ElemOf(ty e:TypeId) (sz bytes:Nat):Prop where
 u:Tryz.prog.underlying ty=some (.slice e)
 i:∃ i z,Tryz.prog.info? e=some i/\i.zero=some z/\i.size=sz/\i.bytes=bytes/\z.cells.size=sz
 p:0 < sz
 b:bytes<=1000
theorem q2k{ty e:TypeId} {sz bytes:Nat} (E:ElemOf ty e sz bytes) {ops:Array Oper} {rest:List Oper} {o:Oper} {a:Act} {Q:Exit->Act->World->Prop} (w:World) (hgd:o.guard=none) (s x:Operand)
  (ho:o.op = .call { callee := .builtin .append,args:=#[s,x],argTypes:=#[ty,ty] })
  {A:Option Addr} {n c:Nat} {xs:List Value} (hs:a.eval s = .slice A n c) (hown:Own w e sz A n c xs) (cs:Array Value) (hcs:cs.size=sz) (h1:∀ u ∈ cs.toList,u.oneCell'=true)
  (hx:a.eval x = .slice (some ⟨w.heap.size,0,none⟩) 1 1) (hn:n<=100000000000)
  (h:∀ A' c' w',Own w' e sz A' (n + 1) c' (xs ++ cs.toList)->Fr (q02 A) w w'->(∀ k,q02 A' k->q02 A k\/w.heap.size<=k)->wpList Tryz.prog ops Q rest (a.put o.dst (.slice A' (n + 1) c')) w') :
  wpList Tryz.prog ops Q (o :: rest) a (w.alloc (.cells cs e)):=by
 obtain⟨i,z,e1,e2,e3,e4,e5⟩:=E.i;refine q6r w hgd s x ty ho 0 e i z sz bytes E.u e1 e2 e3 e4 e5 E.p E.b _ n xs hs hown cs hcs h1 hx hn (Nat.zero_le _) ?_;intro v' w' a1 a2 a3;obtain⟨A',c',rfl,a4,_⟩:=Own.of a1;refine h A' c' w' a4 ⟨a2.os,a2.tape,a2.output,a2.size,λk hk hn=>a2.block k hk λq=>hn (hown.blk q)⟩ λk hk=>?_;cases hk;rcases a3 with a3 | ⟨g,a3,a5⟩
 .exact .inl (hown.blk a3.symm)
 .cases a3;exact .inr a5
theorem q8a{ty e:TypeId} {sz bytes:Nat} (E:ElemOf ty e sz bytes) {o:Oper} {a:Act} {K:Act->World->Prop} {Q:Exit->Act->World->Prop} (w:World) (s x:Operand)
  (ho:o.op = .call { callee := .builtin .append,args:=#[s,x],argTypes:=#[ty,ty] })
  {A:Option Addr} {n c:Nat} {xs:List Value} (hs:a.eval s = .slice A n c) (hown:Own w e sz A n c xs) (h:Nat) (cs:Array Value) (hcs:cs.size=sz) (h1:∀ u ∈ cs.toList,u.oneCell'=true)
  (hblk:Blk w h e cs) (hx:a.eval x = .slice (some ⟨h,0,none⟩) 1 1) (hn:n<=100000000000)
  (H:∀ g cap w',Own w' e sz (some ⟨g,0,none⟩) (n + 1) cap (xs ++ cs.toList)->Fr (q02 A) w w'->(q02 A g\/g=w.heap.size)->K (a.put o.dst (.slice (some ⟨g,0,none⟩) (n + 1) cap)) w') :
  o.wp Tryz.prog a w K Q:=by
 obtain⟨i,z,e1,e2,e3,e4,e5⟩:=E.i;refine qbn w s x ty ho 0 e i z sz bytes E.u e1 e2 e3 e4 e5 E.p E.b _ n xs hs hown h cs hcs h1 hblk hx hn (Nat.zero_le _) ?_;intro g cap w' a1 a2 a3;exact H g cap w' a1 ⟨a2.os,a2.tape,a2.output,a2.size,λk hk hn=>a2.block k hk λq=>hn (hown.blk q)⟩ (a3.imp (λq=>hown.blk q) id)
theorem q1l{ty e:TypeId} {z:Value} {sz bytes:Nat} (hu:Tryz.prog.underlying ty=some (.slice e)) (h:(Tryz.prog.info? e).map (λi=>(i.zero,i.size,i.bytes))=some (some z,sz,bytes)) (hz:z.cells.size=sz) (hp:0 < sz) (hb:bytes<=1000):ElemOf ty e sz bytes:=by
 obtain⟨i0,h0,h1,h2,h3⟩:=info_parts h;exact⟨hu,⟨i0,z,h0,h1,h2,h3,hz⟩,hp,hb⟩
theorem q27:ElemOf 29 3 1 8:=q1l (z:=ii 0) zk zk rfl zd zd
theorem q68{e:TypeId} {sz:Nat} {xs:List Value} (hB:bW W w) (_h:Own w e sz A n c xs) (hf:Fr (q02 A) w w') (hA:∀ k,q02 A k->W.heap.size<=k):bW W w' :=
 ⟨hf.os.trans hB.os,hf.tape.trans hB.tape,hf.output.trans hB.output,Nat.le_trans hB.size hf.size,λk hk=>(hf.block k (by have:=hB.size;omega) λq=>by have:=hA k q;omega).trans (hB.block k hk)⟩
def qi2(w:World) (l:List Int) (e:Ending) (w':World):Prop:=∃ A c,e = .returned (.slice A l.length c)/\Own w' 3 1 A l.length c (l.map (.int .i64))/\(∀ k,q02 A k->w.heap.size<=k)/\bW w w'
theorem qa2{α : Type} (d : α) (f : α->α) (l:List α) {k:Nat} (h:k < l.length):((l.take k).map f ++ l.drop k).set k (f (atD d l k))=(l.take (k + 1)).map f ++ l.drop (k + 1):=by
 rw[List.set_append_right _ _ (by simp;omega),drop_atD d l h,List.length_map,List.length_take,Nat.min_eq_left zo,Nat.sub_self,List.set_cons_zero,List.take_succ_eq_append_getElem h,List.map_append,q0s h];simp
theorem qgs{α : Type} (d : α) (f : α->α) (l:List α) {k:Nat} (h:k < l.length):atD d ((l.take k).map f ++ l.drop k) k=atD d l k:=by
 unfold atD;rw[List.getD_eq_getElem?_getD,List.getD_eq_getElem?_getD,List.getElem?_append_right (by simp;omega),List.length_map,List.length_take,Nat.min_eq_left zo,Nat.sub_self,List.getElem?_drop,Nat.add_zero]
def qd0(l:List Rw):List Rw:=l.map λx=>{ x with park:=false }
def qdw(win:Int) (x:Rw):Bool:=x.state == 2 && decide (0<=x.wake) && decide (x.wake<=win)
def qbc(p:Rw->Bool) (l:List Rw) (k:Nat):List Int:=((List.range k).filter λj=>p (atD Rw0 l j)).map λ(j:Nat)=>(j:Int)
theorem qmo(p:Rw->Bool) (l:List Rw) (k:Nat):qbc p l (k + 1)=qbc p l k ++ (if p (atD Rw0 l k) then [(k:Int)] else []):=by
 unfold qbc;rw[List.range_succ,List.filter_append,List.map_append];cases h:p (atD Rw0 l k) <;> simp[h]
theorem q99(p:Rw->Bool) (l:List Rw) (k:Nat):(qbc p l k).length<=k:=by
 unfold qbc;rw[List.length_map];exact Nat.le_trans (List.length_filter_le _ _) zp
section
variable{w:World} {t mb:Nat} {l:List Rw} {tn:Int} (H:TbR w t mb l tn)
include H
theorem qmp:cP 244 #[pp t] w λe w'=>e = .returned (.tuple #[])/\TbR w' t mb (qd0 l) tn/\Fr (TbS t mb) w w':=by
 have hl8:=H.n;have hL:=q7f H;obtain⟨wo,rfl⟩:∃ wo:World,wo=w:=⟨_,rfl⟩
 refine inC ?_;go_in;go_wp2_with (first | (go_at_call 119;refine(hL).mono ?_;rintro _ _ ⟨rfl,rfl⟩));go_loopw [6] (λi wr=>∃ k:Nat,i = .int .i64 k/\k<=l.length/\TbR wr t mb ((l.take k).map (λx=>{ x with park:=false }) ++ l.drop k) tn/\Fr (TbS t mb) wo wr) (λi _=>l.length - (intOf i).toNat)
 case atStart=>exact⟨0,rfl,Nat.zero_le _,by simpa using H,Fr.refl _ _⟩
 case round =>
  clear hL;obtain⟨k,rfl,hkn,h',hF⟩:=hrel;by_cases hk:k < l.length
  .have hx:=qgs Rw0 (λx:Rw=>{ x with park:=false }) l hk;have hs:=qa2 Rw0 (λx:Rw=>{ x with park:=false }) l hk;have hm:((l.take k).map (λx:Rw=>{ x with park:=false }) ++ l.drop k).length=l.length:=by simp;omega
   generalize (l.take k).map (λx:Rw=>{ x with park:=false }) ++ l.drop k=m at *;have h0:=qa0 h'.km zo (show k < m.length by omega) false;have hw1:wrap64 ((k:Int) + 1)=((k + 1:Nat):Int):=by unfold wrap64;omega
   rw[hx]at h0
   generalize atD Rw0 l k=x at *;simp only[Rw.v,if_neg (show ¬ (false=true) by simp)]at h0;obtain⟨tc,lt⟩:=h'.kt.cl;have HS:=zhd hs;clear hs hx;go_upto_region 5 with fail;have b9:bW wr (wr.alloc (.cells #[ii x.c.prio,ii x.c.per,ii x.c.cost,ii x.call,ii x.what,ii x.wake,ii x.state,ii x.prio,ii x.turn,ii x.next,.bool false] 309)):=zv;have kb:=Blk.new wr 309 #[ii x.c.prio,ii x.c.per,ii x.c.cost,ii x.call,ii x.what,ii x.wake,ii x.state,ii x.prio,ii x.turn,ii x.next,.bool false];generalize wr.alloc (.cells #[ii x.c.prio,ii x.c.per,ii x.c.cost,ii x.call,ii x.what,ii x.wake,ii x.state,ii x.prio,ii x.turn,ii x.next,.bool false] 309)=w2 at *;obtain⟨w3,h1,h3,f3⟩:=h'.upd b9 (show k < m.length by omega) { x with park:=false };clear h0 tc lt;have kc:=kb.cell;obtain⟨tc,lt⟩:=(h'.keep b9).kt.cl;have lg:=kb.lt;simp only[Rw.v]at h1;go_still_tail 6,zk
   go_wp2_with fail;exact⟨⟨k + 1,by go_num,hk,by rw[HS.out]at h3;exact h3,hF.trans f3⟩,by simp[intOf];omega⟩
  .obtain rfl:k=l.length:=zo;go_wp2_with fail;go_returns;rw[List.take_length,List.drop_length,List.append_nil]at h'
   exact⟨rfl,h',hF⟩
theorem qqo{win:Int} : cP 295 #[pp t,ii win] w λe w'=>qi2 w (qbc (qdw win) l l.length) e w':=by
 have hl8:=H.n;have hL:=q7f H;have hn:=H.n;obtain⟨wo,rfl⟩:∃ wo:World,wo=w:=⟨_,rfl⟩
 refine inC ?_;go_in;go_wp2_with (first | (go_at_call 119;refine(hL).mono ?_;rintro _ _ ⟨rfl,rfl⟩));go_loopw [5,10] (λv i wr=>∃ (k:Nat) (A:Option Addr) (c:Nat),i = .int .i64 k/\k<=l.length/\v = .slice A (qbc (qdw win) l k).length c/\Own wr 3 1 A (qbc (qdw win) l k).length c ((qbc (qdw win) l k).map (.int .i64))/\(∀ k,q02 A k->wo.heap.size<=k)/\bW wo wr) (λ_ i _=>l.length - (intOf i).toNat)
 case atStart=>exact⟨0,none,0,rfl,Nat.zero_le _,rfl,Own.nil _ _ _,(λk h=>by cases h),bR⟩
 case round =>
  clear hL;obtain⟨k,A,c,rfl,hkn,rfl,hO,hA,hB⟩:=hrel;by_cases hk:k < l.length
  .have h':=H.keep hB;have h0:=qa0 h'.km zo hk false;have hw1:wrap64 ((k:Int) + 1)=((k + 1:Nat):Int):=by unfold wrap64;omega
   have hsz:=hB.size;have hi:=q99 (qdw win) l k;have hs:=qmo (qdw win) l k;generalize atD Rw0 l k=x at *;simp only[Rw.v,if_neg (show ¬ (false=true) by simp)]at h0;obtain⟨tc,lt⟩:=h'.kt.cl;rw[show qdw win x=(x.state == 2 && decide (0<=x.wake) && decide (x.wake<=win)) from rfl]at hs
   generalize qbc (qdw win) l k=y at *;by_cases q:(x.state == 2 && decide (0<=x.wake) && decide (x.wake<=win))=true
   .have HS:=zhd (hs.trans (by rw[if_pos q]));clear hs;obtain⟨⟨q1,q2⟩,q3⟩:=(by simpa using q:(x.state=2/\0<=x.wake)/\x.wake<=win)
    clear q;have b1:(x.state == 2)=true:=by simp[q1]
    have b2:decide (0<=x.wake)=true:=by simp[q2]
    have b3:decide (x.wake<=win)=true:=by simp[q3]
    clear q1 q2 q3;go_upto_region 7 with fail;have b9:bW wr (wr.alloc (.cells #[ii x.c.prio,ii x.c.per,ii x.c.cost,ii x.call,ii x.what,ii x.wake,ii x.state,ii x.prio,ii x.turn,ii x.next,.bool x.park] 309)):=zv;generalize wr.alloc (.cells #[ii x.c.prio,ii x.c.per,ii x.c.cost,ii x.call,ii x.what,ii x.wake,ii x.state,ii x.prio,ii x.turn,ii x.next,.bool x.park] 309)=w2 at *;have B2:=bt hB b9;go_wp2_with (at_builtin;refine q2k q27 w2 zr _ _ zr zr (hO.keep b9) #[ii k] rfl (by simp[Value.oneCell']) zr zo ?_;intro A' c' w4 hown4 hf4 hat4);refine⟨⟨k + 1,A',c',by go_num,hk,by rw[HS.out];simp,by rw[HS.out];simpa using hown4,λk hk=>(hat4 k hk).elim (hA k) (λh=>Nat.le_trans B2.size h),q68 B2 (hO.keep b9) hf4 hA⟩,by simp[intOf];omega⟩
   .have HS:=zhd (hs.trans (by rw[if_neg q,List.append_nil]));have b1:(x.state == 2 && decide (0<=x.wake) && decide (x.wake<=win))=false:=by simpa using q
    clear hs q;cases b2:(x.state == 2) <;> rw[b2]at b1 <;> cases b3:decide (0<=x.wake) <;> rw[b3]at b1 <;> simp only[Bool.true_and,Bool.false_and]at b1
    all_goals
     go_wp2_with fail;refine⟨⟨k + 1,A,c,by go_num,hk,by rw[HS.out],by rw[HS.out];exact hO.keep zv,hA,bt hB zv⟩,by simp[intOf];omega⟩
  .obtain rfl:k=l.length:=zo;go_wp2_with fail;go_returns;exact⟨A,c,rfl,hO,hA,hB⟩
end
def q22(p:Rw->Bool) (l:List Rw):Nat->Int
 | 0 => -1
 | k + 1=>if p (atD Rw0 l k) && (decide (q22 p l k < 0) || qej (atD Rw0 l k) (atD Rw0 l (q22 p l k).toNat)) then (k:Int) else q22 p l k
theorem q69(p:Rw->Bool) (l:List Rw):∀ k,q22 p l k < k
 | 0=>by simp[q22]
 | k + 1=>by
  unfold q22;have:=q69 p l k;split <;> omega
theorem qxy{t:Nat} {l:List Rw} {tn:Int} (H:TbR w t mb l tn) {k:Nat} (hk:k < l.length) (y:World):(Instr.lookup 303 (.map (some mb)) (ii k) false).run Tryz.prog (q38 (λ_=>False) w y) = .ok (atD Rw0 l k).v (q38 (λ_=>False) w y) :=
 qa0 (H.km.fr (q96 _ w y) id) (by have:=H.n;omega) hk false
def q6o(call what:Int) (x:Rw):Bool:=x.state == 2 && x.call == call && x.what == what
theorem qjo{g1 g2:Nat} {call:Int} {x:Rw} (h1:w.cell? ⟨g1,0,none⟩=some (ii call)) (h2:w.cell? ⟨g2,0,none⟩=some (ii what)) (l1:g1 < w.heap.size) (l2:g2 < w.heap.size):cP 329 #[.agg #[ii x.c.prio,ii x.c.per,ii x.c.cost,ii x.call,ii x.what,ii x.wake,ii x.state,ii x.prio,ii x.turn,ii x.next,.bool x.park],pp g1,pp g2] w λe w'=>e = .returned (.bool (q6o call what x))/\bW w w':=by
 unfold q6o;have n1:g1≠w.heap.size:=zo;have n2:g2≠w.heap.size:=zo;cases hx:(x.state == 2) <;> cases hy:(x.call == call)
 all_goals
  refine inC ?_;go_in;go_wp2_with fail
  all_goals (go_returns;refine⟨q5k zp,zv⟩)
def qqp(w:World) (t:Nat) (l:List Rw) (K:FuncId) (cp:Array Value) (ar:Rw->Array Value):Prop :=
 ∀ {p:Rw->Bool},(∀ w' x,bW w w'->cP K (ar x) w' λe w''=>e = .returned (.bool (p x))/\bW w' w'') ->
  cP 328 #[pp t,.func (.func K) #[] cp] w λe w'=>e = .returned (ii (q22 p l l.length))/\bW w w'
section
variable{w:World} {t mb:Nat} {l:List Rw} {tn:Int}
theorem qxz(H:TbR w t mb l tn) {K:FuncId} {cp:Array Value} {ar:Rw->Array Value} (s:TbR w t mb l tn->qqp w t l K cp ar:=by
   intro H p hp;(try dsimp only at hp);have hl8:=H.n;have hL:=q7f H;obtain⟨wo,rfl⟩:∃ wo:World,wo=w:=⟨_,rfl⟩
   refine inC ?_;go_in;go_wp2_with (first | (go_at_call 119;refine(hL).mono ?_;rintro _ _ ⟨rfl,rfl⟩));go_loopw [5,10] (λv i wr=>∃ k:Nat,i = .int .i64 k/\k<=l.length/\v = .int .i64 (q22 p l k)/\bW wo wr) (λ_ i _=>l.length - (intOf i).toNat)
   case atStart=>exact⟨0,rfl,Nat.zero_le _,rfl,bR⟩
   case round =>
    clear hL;obtain⟨k,rfl,hkn,rfl,hB⟩:=hrel;by_cases hk:k < l.length
    .have h':=H.keep hB;have hw1:wrap64 ((k:Int) + 1)=((k + 1:Nat):Int):=by unfold wrap64;omega
     obtain⟨tc,lt⟩:=h'.kt.cl;have h4:=qxy h' hk;have h1:=λj (hj:j < l.length)=>qxy h' hj;have hs:q22 p l (k + 1)=_:=rfl;have hlt:=q69 p l k
     conv at hs=>rhs;unfold q22
     have HS:=zhd hs;clear hs;have hP:=λw' x hb=>hp w' x (bt hB hb);generalize q22 p l k=b at *;generalize atD Rw0 l k=x at *;simp only[Rw.v]at h4;go_wp2_with fail;cases hpx:p x with
     | false =>
      have h0:Hid (q22 p l (k + 1)=b):=HS.out.trans (by rw[hpx];rfl);clear HS h1;refine zW [(7,0),(17,0)] λK' hK'=>?_;go_wp2_with fail;refine(up (W:=wr) (hP _ x bR.drew) bR.drew).mono ?_;rintro _ w2 ⟨rfl,hb,hs,hc,hf,hl,h2⟩;rw[hpx];refine zG (fO hb _) ?_;clear hK' K';refine wpQuiet_nil (q48 rfl ?_);simp only[Act.put,List.setIfInBounds_toArray,List.set_cons_succ,List.set_cons_zero,q25]
      repeat(go_big_quiet_step (fail))
      refine wpQuiet_nil ?_;go_wp2_with fail;exact⟨⟨k + 1,by go_num,hk,by rw[h0.out],bt hB hb⟩,by simp[intOf];omega⟩
     | true =>
      by_cases q:b < 0
      .have h0:Hid (q22 p l (k + 1)=k):=HS.out.trans (by rw[hpx];simp[q]);have b1:decide (b < 0)=true:=decide_eq_true q;clear HS h1;refine zW [(7,0),(17,0)] λK' hK'=>?_;go_wp2_with fail;refine(up (W:=wr) (hP _ x bR.drew) bR.drew).mono ?_;rintro _ w2 ⟨rfl,hb,hs,hc,hf,hl,h2⟩;rw[hpx];refine zG (fO hb _) ?_;clear hK' K';refine wpQuiet_nil (q48 rfl ?_);simp only[Act.put,List.setIfInBounds_toArray,List.set_cons_succ,List.set_cons_zero,q25]
       repeat(go_big_quiet_step (fail))
       refine wpQuiet_nil ?_;go_wp2_with fail;exact⟨⟨k + 1,by go_num,hk,by rw[h0.out],bt hB hb⟩,by simp[intOf];omega⟩
      .have b1:decide (b < 0)=false:=decide_eq_false q;obtain⟨j,rfl⟩:=Int.eq_ofNat_of_zero_le (Int.not_lt.1 q);replace h1:=h1 j zo;have h0:Hid (q22 p l (k + 1)=if qej x (atD Rw0 l j) then (k:Int) else j):=HS.out.trans (by rw[hpx,b1,Int.toNat_natCast];simp);clear HS q;generalize atD Rw0 l j=y at *;simp only[Rw.v]at h1;refine zW [(7,0),(17,0)] λK' hK'=>?_;go_wp2_with fail;refine(up (W:=wr) (hP _ x bR.drew) bR.drew).mono ?_;rintro _ w2 ⟨rfl,hb,hs,hc,hf,hl,h2⟩;rw[hpx];refine zGW (fO hb _) ?_;clear hK' K';intro K' hK';go_wp2_with fail;refine(up (W:=wr) (qml (x:=x) (y:=y)) (by first | exact hb | go_grown)).mono ?_;rintro _ w3 ⟨rfl,h3,hs3,hc3,hf3,hl3,hB3⟩;generalize qej x y=a at *;refine zGZ (fO h3 _) ?_;clear hK' K';cases a
       all_goals
        go_wp2_with fail;exact⟨⟨k + 1,by go_num,hk,by rw[h0.out];rfl,bt hB h3⟩,by simp[intOf];omega⟩
    .obtain rfl:k=l.length:=zo;go_wp2_with fail;go_returns;exact⟨rfl,hB⟩):qqp w t l K cp ar:=s H
end
section
variable{w:World} {t mb:Nat} {l:List Rw} {tn:Int} (H:TbR w t mb l tn)
include H
theorem qmq:qqp w t l 334 #[] (λx=>#[.agg #[ii x.c.prio,ii x.c.per,ii x.c.cost,ii x.call,ii x.what,ii x.wake,ii x.state,ii x.prio,ii x.turn,ii x.next,.bool x.park]]):=qxz H
theorem qmr{g1 g2:Nat} : qqp w t l 329 #[pp g1,pp g2] (λx=>#[.agg #[ii x.c.prio,ii x.c.per,ii x.c.cost,ii x.call,ii x.what,ii x.wake,ii x.state,ii x.prio,ii x.turn,ii x.next,.bool x.park],pp g1,pp g2]):=qxz H
theorem qem:cP 297 #[pp t] w λe w'=>e = .returned (ii (q22 q4n l l.length))/\bW w w':=by
 have hB:=qmq H (p:=q4n) (λw' x _=>qmk);refine inC ?_;go_in;go_wp2_with (first | (refine uW hB ?_;rintro w1 ⟨hb,hs,hc,hf,hl,hB⟩));go_returns;exact⟨rfl,zv⟩
theorem q4o{call:Int} : cP 290 #[pp t,ii call,ii what] w λe w'=>e = .returned (ii (q22 (q6o call what) l l.length))/\bW w w':=by
 have k1:=Blk.new w 3 #[ii call];have b1:bW w ((w.alloc (.cells #[ii call] 3)).alloc (.cells #[ii what] 3)):=zv;have k2:=Blk.new (w.alloc (.cells #[ii call] 3)) 3 #[ii what];replace k1:=k1.alloc (.cells #[ii what] 3);rw[World.size_alloc]at k2
 have hB:=qmr (H.keep b1) (p:=q6o call what) (g1:=w.heap.size) (g2:=w.heap.size + 1) (λw' x hb=>qjo ((k1.keep hb).cell 0) ((k2.keep hb).cell 0) (k1.keep hb).lt (k2.keep hb).lt);refine inC ?_;go_in;go_wp2_with (first | (refine uW hB ?_;rintro w1 ⟨hb,hs,hc,hf,hl,hB⟩));go_returns;exact⟨rfl,zv⟩
end
structure Rl where
 l:List Rw
 tn:Int
 rel:List Int
 mis:List Int
def z1u(win:Int) (x:Rw):Bool:=decide (x.c.per<=0) || (x.state == 0) || (x.state == 3) || decide (win < x.next)
def qa3(win:Int) (s:Rl) (k:Nat):Rl :=
 if z1u win (atD Rw0 s.l k) then s
 else if (atD Rw0 s.l k).state=4 then { s with l:=(s.l.set k { atD Rw0 s.l k with next:=wrap64 (win + (atD Rw0 s.l k).c.per) }).set k (qi1 s.tn { atD Rw0 s.l k with next:=wrap64 (win + (atD Rw0 s.l k).c.per) } 1),tn:=qqn s.tn 1,rel:=s.rel ++ [(k:Int)] }
 else { s with l:=s.l.set k { atD Rw0 s.l k with next:=wrap64 (win + (atD Rw0 s.l k).c.per) },mis:=s.mis ++ [(k:Int)] }
def q5u(win:Int) (l:List Rw) (tn:Int) (k:Nat):Rl:=(List.range k).foldl (qa3 win) ⟨l,tn,[],[]⟩
theorem qa4(win:Int) (l:List Rw) (tn:Int) (k:Nat):q5u win l tn (k + 1)=qa3 win (q5u win l tn k) k:=by
 unfold q5u;rw[List.range_succ,List.foldl_append];rfl
def qy0(w:World) (l m:List Int) (e:Ending) (w':World):Prop:=∃ A c B d,e = .returned (.tuple #[.slice A l.length c,.slice B m.length d])/\Own w' 3 1 A l.length c (l.map (.int .i64))/\Own w' 3 1 B m.length d (m.map (.int .i64))/\(∀ k,q02 A k->w.heap.size<=k)/\(∀ k,q02 B k->w.heap.size<=k)
structure RlR(wo w:World) (t mb:Nat) (k:Nat) (s:Rl) (A B:Option Addr) (c d:Nat):Prop where
 h:TbR w t mb s.l s.tn
 f:Fr (TbS t mb) wo w
 a:Own w 3 1 A s.rel.length c (s.rel.map (.int .i64))
 b:Own w 3 1 B s.mis.length d (s.mis.map (.int .i64))
 fA:∀ k,q02 A k->wo.heap.size<=k
 fB:∀ k,q02 B k->wo.heap.size<=k
 AB:∀ k,q02 A k->¬ q02 B k
 tm:t < wo.heap.size/\mb < wo.heap.size
 n:s.rel.length<=k/\s.mis.length<=k
section
variable{wo w w':World} {t mb k:Nat} {s:Rl} {A B:Option Addr} {c d:Nat}
theorem RlR.keep(H:RlR wo w t mb k s A B c d) (hb:bW w w'):RlR wo w' t mb k s A B c d:=⟨H.h.keep hb,H.f.trans (fO hb _),H.a.keep hb,H.b.keep hb,H.fA,H.fB,H.AB,H.tm,H.n⟩
theorem RlR.tb(H:RlR wo w t mb k s A B c d) {l':List Rw} {tn':Int} (h:TbR w' t mb l' tn') (hf:Fr (TbS t mb) w w'):RlR wo w' t mb k { s with l:=l',tn:=tn' } A B c d :=
 ⟨h,H.f.trans hf,H.a.fr hf λk hk h=>by have:=H.fA k hk;have:=H.tm;rcases h with h | h <;> omega,H.b.fr hf λk hk h=>by have:=H.fB k hk;have:=H.tm;rcases h with h | h <;> omega,H.fA,H.fB,H.AB,H.tm,H.n⟩
theorem RlR.appA(H:RlR wo w t mb k s A B c d) {A':Option Addr} {c':Nat} {x:Int} (h:Own w' 3 1 A' (s.rel.length + 1) c' (s.rel.map (.int .i64) ++ #[ii x].toList)) (hf:Fr (q02 A) w w') (hA:∀ k,q02 A' k->q02 A k\/w.heap.size<=k):RlR wo w' t mb (k + 1) { s with rel:=s.rel ++ [x] } A' B c' d:=by
 have hw:=H.f.size;refine⟨H.h.fr hf (λh=>by have:=H.fA _ h;have:=H.tm;omega) (λh=>by have:=H.fA _ h;have:=H.tm;omega),H.f.trans' hf λk hk h=>absurd (H.fA k h) zo,by simpa using h,H.b.fr hf λk hk h=>H.AB k h hk,λk hk=>(hA k hk).elim (H.fA k) (λh=>by omega),H.fB,λk hk hk2=>(hA k hk).elim (λh=>H.AB k h hk2) (λh=>by have:=H.b.lt hk2;omega),H.tm,?_⟩;have:=H.n;simp;omega
theorem RlR.appB(H:RlR wo w t mb k s A B c d) {B':Option Addr} {d':Nat} {x:Int} (h:Own w' 3 1 B' (s.mis.length + 1) d' (s.mis.map (.int .i64) ++ #[ii x].toList)) (hf:Fr (q02 B) w w') (hB:∀ k,q02 B' k->q02 B k\/w.heap.size<=k):RlR wo w' t mb (k + 1) { s with mis:=s.mis ++ [x] } A B' c d':=by
 have hw:=H.f.size;refine⟨H.h.fr hf (λh=>by have:=H.fB _ h;have:=H.tm;omega) (λh=>by have:=H.fB _ h;have:=H.tm;omega),H.f.trans' hf λk hk h=>absurd (H.fB k h) zo,H.a.fr hf λk hk h=>H.AB k hk h,by simpa using h,H.fA,λk hk=>(hB k hk).elim (H.fB k) (λh=>by omega),λk hk hk2=>(hB k hk2).elim (λh=>H.AB k hk h) (λh=>by have:=H.a.lt hk;omega),H.tm,?_⟩;have:=H.n;simp;omega
theorem RlR.next(H:RlR wo w t mb k s A B c d):RlR wo w t mb (k + 1) s A B c d:=⟨H.h,H.f,H.a,H.b,H.fA,H.fB,H.AB,H.tm,by have:=H.n;omega⟩
end
section
variable{w:World} {t mb:Nat} {l:List Rw} {tn:Int} (H:TbR w t mb l tn)
include H
theorem qeo{win:Int} : cP 287 #[pp t,ii win] w λe w'=>qy0 w (q5u win l tn l.length).rel (q5u win l tn l.length).mis e w'/\TbR w' t mb (q5u win l tn l.length).l (q5u win l tn l.length).tn/\Fr (TbS t mb) w w':=by
 have hl8:=H.n;have hL:=q7f H;obtain⟨wo,rfl⟩:∃ wo:World,wo=w:=⟨_,rfl⟩
 refine inC ?_;go_in;go_wp2_with (first | (go_at_call 119;refine(hL).mono ?_;rintro _ _ ⟨rfl,rfl⟩));go_loopw [6,7,12] (λv u i wr=>∃ (k:Nat) (A B:Option Addr) (c d:Nat),i = .int .i64 k/\k<=l.length/\v = .slice A (q5u win l tn k).rel.length c/\u = .slice B (q5u win l tn k).mis.length d/\(q5u win l tn k).l.length=l.length/\RlR wo wr t mb k (q5u win l tn k) A B c d) (λ_ _ i _=>l.length - (intOf i).toNat)
 case atStart=>exact⟨0,none,none,0,0,rfl,Nat.zero_le _,rfl,rfl,rfl,H,Fr.refl _ _,Own.nil _ _ _,Own.nil _ _ _,(λk h=>by cases h),(λk h=>by cases h),(λk h=>by cases h),⟨H.kt.lt,H.km.lt⟩,⟨nL,nL⟩⟩
 case round =>
  clear hL;obtain⟨k,A,B,c,d,rfl,hkn,rfl,rfl,h5,hR⟩:=hrel;by_cases hk:k < l.length
  .have hs:=qa4 win l tn k;generalize q5u win l tn k=s at *;have h2:k < s.l.length:=zo;have h4:=qa0 hR.h.km (by have:=hR.h.n;omega) h2 false;have hw1:wrap64 ((k:Int) + 1)=((k + 1:Nat):Int):=by unfold wrap64;omega
   unfold qa3 at hs;obtain⟨x,hx⟩:∃ x,x=atD Rw0 s.l k:=⟨_,rfl⟩
   rw[<- hx]at hs h4
   clear hx;simp only[Rw.v,if_neg (show ¬ (false=true) by simp)]at h4;obtain⟨tc,lt⟩:=hR.h.kt.cl;cases q:z1u win x with
   | true =>
    have HS:=zhd (hs.trans (by rw[if_pos q]));clear hs;have b1:(decide (x.c.per<=0) || (x.state == 0) || (x.state == 3) || decide (win < x.next))=true:=q;clear q;cases b2:decide (x.c.per<=0) <;> rw[b2]at b1 <;> cases b3:(x.state == 0) <;> rw[b3]at b1 <;> cases b4:(x.state == 3) <;> rw[b4]at b1 <;> try simp only[Bool.false_or,Bool.or_false]at b1 <;> try(exfalso;revert b1;simp;done)
    all_goals
     go_wp2_with fail;exact⟨⟨k + 1,A,B,c,d,by go_num,hk,by rw[HS.out],by rw[HS.out],by rw[HS.out];exact h5,by rw[HS.out];exact(hR.keep zv).next⟩,by simp[intOf];omega⟩
   | false =>
    rw[if_neg (by simp[q])]at hs
    have b1:(decide (x.c.per<=0) || (x.state == 0) || (x.state == 3) || decide (win < x.next))=false:=q;clear q;simp only[Bool.or_eq_false_iff]at b1;obtain⟨⟨⟨b1,b2⟩,b3⟩,b4⟩:=b1;go_upto_region 8 with fail;have b9:bW wr (wr.alloc (.cells #[ii x.c.prio,ii x.c.per,ii x.c.cost,ii x.call,ii x.what,ii x.wake,ii x.state,ii x.prio,ii x.turn,ii (wrap64 (win + x.c.per)),.bool x.park] 309)):=zv;have kb:=Blk.new wr 309 #[ii x.c.prio,ii x.c.per,ii x.c.cost,ii x.call,ii x.what,ii x.wake,ii x.state,ii x.prio,ii x.turn,ii (wrap64 (win + x.c.per)),.bool x.park];have hg:¬ TbS t mb wr.heap.size:=by rintro(h | h);have:=hR.h.kt.lt;omega;have:=hR.h.km.lt;omega
    generalize wr.alloc (.cells #[ii x.c.prio,ii x.c.per,ii x.c.cost,ii x.call,ii x.what,ii x.wake,ii x.state,ii x.prio,ii x.turn,ii (wrap64 (win + x.c.per)),.bool x.park] 309)=w2 at *;generalize wr.heap.size=g at kb hg ⊢;obtain⟨w3,h6,h3,f3,f4⟩:=hR.h.upd' b9 h2 { x with next:=wrap64 (win + x.c.per) };clear h4 tc lt b1 b2 b3 b4;have kc:=kb.cell;obtain⟨tc,lt⟩:=(hR.h.keep b9).kt.cl;have lg:=kb.lt;simp only[Rw.v]at h6;go_still_tail 6,zk
    clear tc lt kc lg;obtain⟨kc,lg⟩:=(kb.fr f4 hg).cl;have h0:=hR.tb h3 f3;by_cases q4:x.state=4
    .have b1:(x.state != 4)=false:=by simp[q4]
     have HS:=zhd (hs.trans (by rw[if_pos q4]));clear hs q4;have hP:=q98 h3 (k:=k) (by rw[List.length_set];exact h2) (x:={ x with next:=wrap64 (win + x.c.per) }) (s:=1);go_wp2_with (first | (go_at_call 241;refine(hP).mono ?_;rintro _ w4 ⟨rfl,ht,h1⟩) | (at_builtin;refine q2k q27 w4 zr _ _ zr zr (h0.tb ht h1).a #[ii k] rfl (by simp[Value.oneCell']) zr (by have:=(h0.tb ht h1).n;omega) ?_;intro A' c' w5 hown4 hf4 hat4));have h7:=h0.tb ht h1;refine⟨⟨k + 1,A',B,c',d,by go_num,hk,by rw[HS.out];simp,by rw[HS.out],by rw[HS.out];simpa using h5,by rw[HS.out];exact h7.appA hown4 hf4 hat4⟩,by simp[intOf];omega⟩
    .have b1:(x.state != 4)=true:=by simp[q4]
     have HS:=zhd (hs.trans (by rw[if_neg q4]));clear hs q4;go_wp2_with (at_builtin;refine q2k q27 w3 zr _ _ zr zr h0.b #[ii k] rfl (by simp[Value.oneCell']) zr (by have:=h0.n;omega) ?_;intro A' c' w5 hown4 hf4 hat4);refine⟨⟨k + 1,A,A',c,c',by go_num,hk,by rw[HS.out],by rw[HS.out];simp,by rw[HS.out];simpa using h5,by rw[HS.out];exact h0.appB hown4 hf4 hat4⟩,by simp[intOf];omega⟩
  .obtain rfl:k=l.length:=zo;go_wp2_with fail;go_returns;exact⟨⟨A,c,B,d,rfl,hR.a,hR.b,hR.fA,hR.fB⟩,hR.h,hR.f⟩
end
def qqq(c:Pc):Rw:={ Rw0 with c:=c,prio:=c.prio }
def qd1(l:List Pc):List Rw:=(l.take 8).map qqq
def z25(w:World) (l:List Rw) (e:Ending) (w':World):Prop:=∃ t mb,e = .returned (pp t)/\TbR w' t mb l 0/\w.heap.size<=t/\w.heap.size<=mb/\bW w w'
theorem qy1(w:World):(Instr.makeMap 303 none).run Tryz.prog w = .ok (.map (some w.heap.size)) (w.alloc (.map #[] 0)):=zk
theorem z0d:Tryz.prog.underlying 46=some (.slice (Tryz.prog.elem 46)):=zk
theorem qv1(w:World):(sizeOf (Tryz.prog.elem 46)).run Tryz.prog w = .ok 3 w:=zk
theorem qqr{l:Hd Pc} (hl:q8y.ok w l):cP 114 #[l.hq] w λe w'=>z25 w (qd1 l.l) e w':=by
 have hlen:=hl.1.len;have hc:=hl.1.1.2.1;obtain⟨m,hm⟩:∃ m,m=min l.l.length 8:=⟨_,rfl⟩
 have h2:SlG w (slA l.A 0 l.c 3) m l.c 3 z05.f (l.l.take m):=by have h:=hl.1.cut (Nat.zero_le m) (by omega:m<=l.l.length);rw[show z05.sz=3 from rfl]at h;simpa using h
 have hsl:=λw=>q4p z0d qv1 w l.A l.l.length l.c m zo;have hmk:=qy1;have hmin:min (l.l.length:Int) 8=m:=zo;have h5:qd1 l.l=(l.l.take m).map qqq:=by
  unfold qd1;rcases Nat.lt_or_ge l.l.length 8 with h | h
  .rw[List.take_of_length_le zo,List.take_of_length_le zo]
  .rw[show m=8 by omega]
 rw[h5];have hq:(l.l.take m).length=m:=by simp;omega
 have hm8:m<=8:=zo;generalize l.l.take m=q at *;generalize slA l.A 0 l.c 3=A at *;clear hm h5;have km:=qxx w;have kt:=Blk.new (w.alloc (.map #[] 0)) 305 #[.map (some w.heap.size),ii 0];have b0:bW w ((w.alloc (.map #[] 0)).alloc (.cells #[.map (some w.heap.size),ii 0] 305)):=zv;rw[World.size_alloc]at kt
 have km:=km.keep (w':=(w.alloc (.map #[] 0)).alloc (.cells #[.map (some w.heap.size),ii 0] 305)) zv;obtain⟨wo,rfl⟩:∃ wo:World,wo=w:=⟨_,rfl⟩
 refine inC ?_;go_in;go_upto_region 2 with fail;generalize (wo.alloc (.map #[] 0)).alloc (.cells #[.map (some wo.heap.size),ii 0] 305)=w1 at *;go_wp2_with fail;go_loopw [15] (λi wr=>∃ k:Nat,i = .int .i64 k/\k<=m/\TbR wr (wo.heap.size + 1) wo.heap.size ((q.take k).map qqq) 0/\bW wo wr) (λi _=>m - (intOf i).toNat)
 case atStart=>exact⟨0,rfl,Nat.zero_le _,⟨kt,km,zo,zp⟩,b0⟩
 case round =>
  clear kt km b0;obtain⟨k,rfl,hkn,H,hB⟩:=hrel;by_cases hk:k < m
  .obtain⟨sb,so,hA,hsb,h1⟩:=(h2.keep hB).at_ Pc0 (k:=k) zo;have s0:wr.cell? ⟨sb,so + k * 3,none⟩=some (ii (atD Pc0 q k).prio):=h1 0 _ rfl;have s1:=h1 1 _ rfl;have s2:=h1 2 _ rfl;have hw1:wrap64 ((k:Int) + 1)=((k + 1:Nat):Int):=by unfold wrap64;omega
   have ht:(q.take (k + 1)).map qqq=(q.take k).map qqq ++ [qqq (atD Pc0 q k)]:=by
    rw[List.take_succ_eq_append_getElem zo,List.map_append,q0s zo];rfl
   have h4:((q.take k).map qqq).length=k:=by simp;omega
   have HT:=zhd ht;clear ht h1;generalize atD Pc0 q k=x at *;rw[hA];go_upto_region 5 with fail;have b9:bW wr (wr.alloc (.cells (Pc.lw x) 89)):=zv;have kb:=Blk.new wr 89 (Pc.lw x);generalize wr.alloc (.cells (Pc.lw x) 89)=w2 at *;have H2:=H.keep b9;have fd:=(Fr.refl (λ_=>False) w2).drew;obtain⟨w3,h0,h3,f3⟩:=qv0 (H2.km.fr fd id) zo (qqq x);have h6:=(H2.kt.fr fd id).fr f3 H2.ne;have kc:=kb.cell;obtain⟨tc,lt⟩:=H2.kt.cl;have lg:=kb.lt;rw[h4]at h0
   simp only[Rw.v,qqq,Rw0]at h0;clear H2 h4;go_still_tail 9,zk
   go_wp2_with fail;refine⟨⟨k + 1,by go_num,hk,⟨h6,by rw[HT.out];exact h3,zo,by simp;omega⟩,?_⟩,by simp[intOf];omega⟩;exact(bt hB b9).drew.trans (f3.below (by intro k h e;omega) (by have:=(bt hB b9).size;simpa using this))
  .obtain rfl:k=m:=zo;go_wp2_with fail;go_returns;rw[List.take_of_length_le zo]at H
   exact⟨_,_,rfl,H,zo,zo,hB⟩
section
open Go.RowKit Go.Shelf
attribute [local go_sem] Oper.semAt_some
def qdx(x:Sk) (k:Nat):List Int:=((List.range k).filter λj=>!atD false x.fin j).map (at0 x.has)
theorem qa5(x:Sk) (k:Nat):qdx x (k + 1)=qdx x k ++ (if atD false x.fin k then [] else [at0 x.has k]):=by
 unfold qdx;rw[List.range_succ,List.filter_append,List.map_append];cases h:atD false x.fin k <;> simp[h]
theorem qbq(x:Sk) {k:Nat} (hf:atD false x.fin k=false):∀ {n:Nat},k < n->∃ r,qdx x n=qdx x k ++ at0 x.has k :: r
 | 0,h=>absurd h zo
 | n + 1,h=>by
  by_cases q:k=n
  .subst q;exact⟨[],by rw[qa5,hf];rfl⟩
  .obtain⟨r,hr⟩:=qbq x hf (n:=n) zo;exact⟨r ++ _,by rw[qa5,hr,List.append_assoc,List.cons_append]⟩
def qqs(l:List Int) (k:Nat):Array Value:=#[ii (at0 l k)]
theorem qms(l r:List Int) (a:Int):at0 (l ++ a :: r) l.length=a:=by simp[at0]
theorem qep{s a:Nat} {qs:List Nat} {x:Sk} (H:SkR w s a cap qs x) {g:Nat} (kg:Blk w g 253 #[pp s]) {K:Nat->Prop} (hKg:K g) (hKs:K s) (hKa:K a) (hKq:∀ k,k ∈ qs->K k) :
  qx7 Tryz.prog 339 #[pp g] (qqs (qdx x x.has.length)) (qdx x x.has.length).length K w:=by
 intro l J Jx T W hW hJ hJx hT0 hTb hY h0;replace H:=H.fr hW (λh=>h hKs) (λh=>h hKa) (λk h h'=>h' (hKq k h));replace kg:=kg.fr hW (λh=>h hKg);have c0:=kg.cell 0;have lg:=kg.lt;obtain⟨ks,ls⟩:=H.ks.cl;have hn:=H.n;refine inC ?_;go_in;go_wp2_with fail;go_loopw [10] (λi wr=>∃ (k:Nat) (T':Nat->Prop),i = .int .i64 k/\k<=x.has.length/\Fr T W wr/\Grw T T' W wr/\J (qdx x k).length T' wr) (λi _=>x.has.length - (intOf i).toNat)
 case atStart=>exact⟨0,T,rfl,Nat.zero_le _,Fr.refl _ _,Grw.refl hTb,h0⟩
 case round =>
  obtain⟨k,T',rfl,hkn,hF,hG,h1⟩:=hrel;by_cases hk:k < x.has.length
  .have H':=H.fr hF (λh=>hT0 _ h hKs) (λh=>hT0 _ h hKa) (λk h h'=>hT0 _ h' (hKq k h));obtain⟨ha,hc⟩:=H'.at_ hk;have kq:=H'.q k hk;obtain⟨kc,lq⟩:=kq.cl;have hw1:wrap64 ((k:Int) + 1)=((k + 1:Nat):Int):=by unfold wrap64;omega
   have hs:=qa5 x k;have h5:=λh=>qbq x (k:=k) h hk;clear c0 lg ks ls kg;generalize atN qs k=q at *;cases hf:atD false x.fin k with
   | true =>
    rw[hf]at kc hs
    rw[if_pos rfl,List.append_nil]at hs
    go_wp2_with fail;exact⟨⟨k + 1,T',by go_num,hk,hF,hG,by rw[hs];exact h1⟩,by simp[intOf];omega⟩
   | false =>
    rw[hf]at kc hs
    rw[if_neg zp]at hs
    obtain⟨r,hr⟩:=h5 hf;have h4:=hY (qdx x k).length T' wr (by rw[hr];simp) h1 hG.bnd;rw[show qqs (qdx x x.has.length) (qdx x k).length = #[ii (at0 x.has k)] by unfold qqs;rw[hr,qms]]at h4
    generalize at0 x.has k=y at *;have HS:=zhd (show(qdx x (k + 1)).length=(qdx x k).length + 1 by rw[hs];simp);have HN:=zhd (show(qdx x k).length + 1<=(qdx x x.has.length).length by rw[hr];simp);clear hs hr h5;obtain⟨fn,tmps,assign,body,hy,hR⟩:=h4;refine(wpIn_wide (n:=1)).1 ?_;gi_wp2
    refine hR.mono ?_;rintro e w6 ⟨T2,h2,h3,(⟨rfl,h6⟩ | ⟨rfl,hJx6⟩)⟩
    .gi_wp2
     go_wp2_with fail;exact⟨⟨k + 1,T2,by go_num,hk,hF.grw hG h2,hG.trans hF.size h3,by rw[HS.out];exact h6⟩,by simp[intOf];omega⟩
    .gi_wp2
     go_wp2_with fail;go_returns;exact⟨⟨_,rfl⟩,T2,hF.grw hG h2,hG.trans hF.size h3,.inr ⟨_,HN.out,hJx6⟩⟩
  .obtain rfl:k=x.has.length:=zo;go_wp2_with fail;go_returns;exact⟨⟨_,rfl⟩,T',hF,hG,.inl h1⟩
def qgu(x:Sk):Int:=min ((qdx x x.has.length).foldl qtr 0) x.room
theorem qjq{l:List Int} {k:Nat} (h:k < l.length) (f:Int->Int->Int) (z:Int):(l.take (k + 1)).foldl f z=f ((l.take k).foldl f z) (at0 l k):=by
 rw[List.take_succ_eq_append_getElem h,List.foldl_append,q2v h];rfl
theorem qgv{s:Nat} : cP 303 #[pp s] w λe w'=>e = .returned (.func (.func 339) #[] #[pp w.heap.size])/\w'=w.alloc (.cells #[pp s] 253):=by
 refine inC ?_;go_in;go_wp2;go_returns;exact⟨rfl,rfl⟩
section
variable{w:World} {s a cap:Nat} {qs:List Nat} {x:Sk} (H:SkR w s a cap qs x)
include H
theorem SkR.old:s < w.heap.size/\(0 < x.has.length->a < w.heap.size)/\∀ k,k ∈ qs->k < w.heap.size:=by
 refine⟨H.ks.lt,λh=>(H.at_ h).1,λk hk=>?_⟩;obtain⟨i,hi,rfl⟩:=List.getElem_of_mem hk;have:=(H.q i (by have:=H.ql;omega)).lt;rwa [show atN qs i=qs[i] by simp[atN,List.getElem?_eq_getElem hi]]at this
theorem qa6(ha:a < w.heap.size):cP 260 #[pp s] w λe w'=>e = .returned (ii (qgu x))/\bW w w':=by
 obtain⟨k,lt⟩:=H.ks.cl;have h0:=H.old;obtain⟨y,hy⟩:∃ y,y=qdx x x.has.length:=⟨_,rfl⟩
 unfold qgu;rw[<- hy];have k3:=Blk.new w 3 #[ii 0];have kg:=Blk.new (w.alloc (.cells #[ii 0] 3)) 253 #[pp s];have b2:bW w ((w.alloc (.cells #[ii 0] 3)).alloc (.cells #[pp s] 253)):=zv;replace k3:=k3.alloc (.cells #[pp s] 253);rw[World.size_alloc]at kg
 have h3:=qep (H.keep b2) kg (K:=λb=>b=w.heap.size + 1\/b=s\/b=a\/b ∈ qs) (.inl rfl) (.inr (.inl rfl)) (.inr (.inr (.inl rfl))) (λk h => .inr (.inr (.inr h)));rw[<- hy]at h3
 clear hy;refine(callsIn_wide (n:=1)).1 (callsIn_of_wp_marks Tryz.func260 rfl trivial ?_ rfl);simp only[Tryz.ntmps260,List.size_toArray,List.length_cons,List.length_nil,Nat.reduceAdd,Nat.reduceSub,Array.replicate_succ,Array.replicate_zero,List.push_toArray,List.append_toArray,List.nil_append,List.cons_append];gi_wp2
 refine⟨trivial,callsIn_wide.2 (qgv.mono ?_)⟩;rintro _ _ ⟨rfl,rfl⟩;generalize (w.alloc (.cells #[ii 0] 3)).alloc (.cells #[pp s] 253)=w2 at *;have hlg:=kg.lt;gi_wp2
 refine qd2 (gf:=339) rfl (enters_of Tryz.func339 zk rfl) h3 (λb h=>by rcases h with h | h | h | h <;> first | omega | (have:=h0.2.2 b h;omega)) (Fr.refl _ _) (λ_=>rfl)
  (λk T W=>Blk W w.heap.size 3 #[ii ((y.take k).foldl qtr 0)]/\T w.heap.size)
  (λ_ _ _ _=>False) ?_ (λ_ _ _ _ _ h _=>h) (λb=>b=w.heap.size) (λb h h'=>by rcases h' with h' | h' | h' | h' <;> first | omega | (have:=h0.2.2 b h';omega)) (λb h=>by omega)
  ⟨k3,rfl⟩
  (λk a' T W=>a'={ tmps:=#[pp s,undef,ii 0,pp w.heap.size,ii (at0 y k),pp s,.bool false,.bool false,pp s,pp s,.pointer (some ⟨s,2,none⟩),.bool true,.bool false,.bool false,pp s,.func (.func 339) #[] #[pp (w.heap.size + 1)],ii (at0 y k),undef,undef,undef,undef,undef,undef,undef,undef,undef],defers:=[] }/\Blk W w.heap.size 3 #[ii ((y.take k).foldl qtr 0)]/\T w.heap.size)
  ?_ ?_ ?_ ?_ ?_
 .rintro k T W W' ⟨h1,h2⟩ hf;exact⟨h1.fr hf (λh=>h.1 h2),h2⟩
 .rintro a' k T W W' ⟨rfl,h1,h2⟩ hf;exact⟨rfl,h1.fr hf (λh=>h.1 h2),h2⟩
 .rintro l k T W K hk ⟨h1,h2⟩ hT hK;simp only[qqs];gi_wp2
  exact hK _ T _ (Fr.refl _ _) (Grw.refl hT) ⟨rfl,h1,h2⟩
 .rintro l k a' T W hk ⟨rfl,h1,h2⟩ hT;have h5:=h1.cell 0;have h4:=h1.lt;have hfz:=h1.frozen 0;gi_wp2
  refine⟨trivial,rfl,CallsIn.inRound l (callsIn_wide.2 (quo.mono ?_))⟩;rintro _ _ ⟨rfl,rfl⟩;gi_wp2
  refine⟨T,(Fr.refl T W).setCell (λ_=>h2) _,λb hb=>⟨.inl hb,by have:=hT b hb;simpa using this⟩,?_,h2⟩;rw[qjq hk];exact h1.set_ 0 _
 .rintro D T' W hD hnD hF hG ⟨h1,h2⟩ hK;have h5:=h1.cell 0;have h4:=h1.lt;have HW:=(H.keep b2).fr hF zo zo (λk hk=>by have:=h0.2.2 k hk;omega);obtain⟨ks,ls⟩:=HW.ks.cl;clear k lt;gi_wp2
  refine wpIn_wide.2 ?_;go_quiet (fail)
  go_wp2_with fail;gi_wp2
  refine⟨zp,.inl ⟨_,_,rfl,run_takeDeferred (w:=W.drewN nq) hK,?_⟩⟩;exact⟨_,results_tmp rfl _ _ _,rfl,b2.trans (((hF.drewN nq).putObj (l:=D) (λh=>by omega) _).below (λb hb h=>by omega) (by have:=b2.size;omega))⟩
 .exact λ_ _ _ _ _ _ _ _ _ _ h _=>h.elim
def qqt(x:Sk) (k:Nat):Sk:={ x with fin:=x.fin.set k true }
omit H in
theorem qv3(l:List Bool) (i j:Nat) (v:Bool) (hi:i < l.length):atD false (l.set i v) j=if j=i then v else atD false l j:=by
 unfold atD;rw[List.getD_eq_getElem?_getD,List.getD_eq_getElem?_getD,List.getElem?_set];by_cases h:i=j
 .subst h;simp[hi]
 .simp[h,Ne.symm h]
theorem SkR.fin{i:Nat} (hi:i < x.has.length):SkR (w.setCell ⟨atN qs i,1,none⟩ (.bool true)) s a cap qs (qqt x i):=by
 have hq:=H.qb i hi;have h0:i < x.fin.length:=by have:=H.fl;omega
 refine⟨H.ks.far (λe=>hq.1 e.symm) _,H.ka.fr ((Fr.refl (λk=>k=atN qs i) w).setCell (p:=⟨atN qs i,1,none⟩) (λ_=>rfl) _) (λ_ _ _ e=>by cases e;exact λh=>hq.2 h.symm),λj hj=>?_,H.ql,by unfold qqt;simpa using H.fl,H.sa,H.qb,H.qq,H.n⟩;unfold qqt;rw[qv3 x.fin i j true h0];by_cases h:j=i
 .subst h;rw[if_pos rfl];exact(H.q j hj).set_ 1 _
 .rw[if_neg h];exact(H.q j hj).far (H.qq j i hj hi h) _
theorem qgw(i:Nat) (hi:i < x.has.length):cP 335 #[pp s,ii i] w λe w'=>e = .returned (ii (wrap64 (qgu x - qgu (qqt x i))))/\SkR w' s a cap qs (qqt x i)/\Fr (SkS s qs) w w':=by
 have hF:=q9z H hi;have ha:=(H.at_ hi).1;have hL:=λw' (hb:bW w w')=>qa6 (H.keep hb) (by have:=hb.size;omega);have hm:atN qs i ∈ qs:=q89 (by have:=H.ql;omega);have lq:=(H.q i hi).lt;have kq:=H.q i hi;have h1:=λw1 (hb:bW w w1)=>qa6 ((H.keep hb).fin hi) (by have:=hb.size;simp;omega);have hK:=λw1 (hb:bW w w1)=>(H.keep hb).fin hi;have k1:=kq.cell;have z1:=kq.frozen;refine inC ?_;go_in;go_wp2_with (first | (go_at_call 299;refine(hF).mono ?_;rintro _ _ ⟨rfl,rfl⟩) | (go_at_call 260;refine(up (W:=w) (hL _ bR) zv).mono ?_;rintro _ w1 ⟨rfl,hb,hs,hc,hf,hl,hB⟩) | (go_at_call 260;refine(h1 _ hb).mono ?_;rintro _ w2 ⟨rfl,h0⟩));have h3:=hK w1 hb;have f3:=(fO hb (SkS s qs)).setCell (p:=⟨atN qs i,1,none⟩) (λ_ => .inr hm) (.bool true);go_returns;exact⟨rfl,h3.keep h0,f3.trans (fO h0 _)⟩
end
end
end Go.Proofs.YtncfcbohiodnnaaGreat
