/- Parts of this seat's claims. -/
import Derived.Test.YtncfcbohiodnnaaGreatW12
import Derived.Maps.OwnSet
set_option maxRecDepth 100000
set_option maxHeartbeats 6400000
namespace Go.Proofs.YtncfcbohiodnnaaGreat
open Go.RowKit
variable{w w' W wa wo W':World} {c n pt r B j b m mb q base cap id B0:Nat} {A:Option Addr} {a code what:Int} {cs:Array Value}
structure Ls where
 now:Int
 base:Int
 done:Int
 level:Int
 left:Int
abbrev Ls.lw (x:Ls):Array Value:=#[.int .i64 x.now,.int .i64 x.base,.int .i64 x.done,.int .i64 x.level,.int .i64 x.left]
def Ls.ok(x:Ls):Prop:=i64 x.now/\i64 x.base/\i64 x.done/\i64 x.level/\i64 x.left
def qh1(p:Pw) (x:Ls):Bool:=qgm p && decide (0<=x.level) && decide (x.level < p.levels.l.length) && decide (0<=x.base) && decide (x.base<=x.now) && decide (x.now<=1152921504606846976) && decide (0<=x.done) && decide (x.done<=2147483648) && decide (0<=x.left) && decide (x.left<=2147483648)
theorem qrb{p:Pw} {x:Ls} (hp:q1y.ok w p):cP 383 #[.agg (Ls.lw x),.agg (Pw.lw p)] w λe w'=>e = .returned (.bool (qh1 p x))/\bW w w':=by
 have hP:=λw' hb=>q9w (q1y.keep (W':=w') hp hb);have hE:qh1 p x=qh1 p x:=rfl
 conv at hE=>rhs;unfold qh1
 generalize qh1 p x=R at *;generalize qgm p=b at *;have HE:=zhd hE;clear hE;refine inC ?_;go_in;go_wp2_with (go_at_call 108;refine(up (W:=w) (hP _ zv) zv).mono ?_;rintro _ w1 ⟨⟨e',k,rfl,hv⟩,hb,hs,hc,hf,hl,hB⟩)
 all_goals (go_returns;refine⟨q5k ?_,zv⟩;rw[HE.out];first | (simp_all;done) | (simp_all;omega))
def qbt(y:Lv) (n:Int):Int:=(q0b n 1000 y.freq true).1
theorem qey{y:Lv} {n:Int} (hy:i64 y.freq) (hn:i64 n):cP 399 #[.agg (Lv.lw y),ii n] w λe w'=>e = .returned (ii (qbt y n))/\bW w w':=by
 have hM:=λw=>q3k (w:=w) (up:=true) hn (show i64 1000 by unfold i64;omega) hy;unfold qbt;generalize q0b n 1000 y.freq true=R at *;refine inC ?_;go_in;go_wp2_with (go_at_call 273;refine(up (W:=w) (hM _) zv).mono ?_;rintro _ w1 ⟨rfl,hb,hs,hc,hf,hl,hB⟩);go_returns;exact⟨rfl,zv⟩
def q7l(p:Pw) (x:Ls) (j:Nat):Int:=if (j:Int)=x.level then max x.now (wrap64 (x.base + qbt (atD Lv0 p.levels.l j) (wrap64 (x.done + x.left)))) else wrap64 (wrap64 (x.now + p.sw) + qbt (atD Lv0 p.levels.l j) x.left)
theorem qrc(n:Int):i64 (wrap64 n):=by unfold i64 wrap64;omega
theorem qia{p:Pw} {x:Ls} (hp:q1y.ok w p) (hx:x.ok) {j:Nat} (ht:j < p.levels.l.length):cP 384 #[.agg #[ii x.now,ii x.base,ii x.done,ii x.level,ii x.left],.agg #[.slice p.levels.A p.levels.l.length p.levels.c,.slice p.naps.A p.naps.l.length p.naps.c,ii p.sw,ii p.idle,ii p.change,ii p.quant,ii p.slow,ii p.ppm],ii j] w λe w'=>e = .returned (ii (q7l p x j))/\bW w w':=by
 have k1:=(Blk.new w 431 #[ii x.now,ii x.base,ii x.done,ii x.level,ii x.left]).alloc (.cells #[.slice p.levels.A p.levels.l.length p.levels.c,.slice p.naps.A p.naps.l.length p.naps.c,ii p.sw,ii p.idle,ii p.change,ii p.quant,ii p.slow,ii p.ppm] 28);have k2:=Blk.new (w.alloc (.cells #[ii x.now,ii x.base,ii x.done,ii x.level,ii x.left] 431)) 28 #[.slice p.levels.A p.levels.l.length p.levels.c,.slice p.naps.A p.naps.l.length p.naps.c,ii p.sw,ii p.idle,ii p.change,ii p.quant,ii p.slow,ii p.ppm];have h1:=(zA w (.cells #[ii x.now,ii x.base,ii x.done,ii x.level,ii x.left] 431)).alloc zp (.cells #[.slice p.levels.A p.levels.l.length p.levels.c,.slice p.naps.A p.naps.l.length p.naps.c,ii p.sw,ii p.idle,ii p.change,ii p.quant,ii p.slow,ii p.ppm] 28);rw[World.size_alloc]at k2
 have hE:q7l p x j=q7l p x j:=rfl
 conv at hE=>rhs;unfold q7l
 generalize q7l p x j=R at *;have hw1:wrap64 (j:Int)=j:=by have:=hp.1.1.len;unfold wrap64;omega
 obtain⟨sb,so,hA,h3,h2⟩:=(qb9.keep hp.1 h1).1.at_ Lv0 ht;have hy:=zhd (hp.1.2 _ (q0h (d:=Lv0) ht)).1;rw[show qxk.sz=2 from rfl]at h2
 have s0:=h2 0 _ rfl;have s1:=h2 1 _ rfl;generalize atD Lv0 p.levels.l j=y at *;rw[Nat.add_zero]at s0
 clear h2;by_cases q:(j:Int)=x.level
 .rw[if_pos q]at hE
  have hT:=λw=>qey (w:=w) (n:=wrap64 (x.done + x.left)) hy.out (qrc _);generalize qbt y (wrap64 (x.done + x.left))=T at *;have HE:=zhd hE;have q':((j:Int) == x.level)=true:=beq_iff_eq.2 q;clear hE q;rw[hA]at k1 k2 h1 s0 s1 h3 ⊢
  refine inC ?_;go_in;go_wp2_with fail;generalize (w.alloc (.cells #[ii x.now,ii x.base,ii x.done,ii x.level,ii x.left] 431)).alloc (.cells _ 28)=W at *;have l1:=k1.lt;have l2:=k2.lt;replace k1:=k1.cell;replace k2:=k2.cell;refine zW [(14,0)] λK' hK'=>?_;go_wp2_with fail;refine(hT _).mono ?_;rintro _ w2 ⟨rfl,h0⟩;replace h0:=(Below.refl W.heap.size W).drew.trans h0;refine zGZ (fO h0 _) ?_;clear hK' K';go_wp2_with fail;go_returns;exact⟨q0w HE.out.symm,bt h1 h0⟩
 .rw[if_neg q]at hE
  have hT:=λw=>qey (w:=w) (n:=x.left) hy.out hx.2.2.2.2;generalize qbt y x.left=T at *;have HE:=zhd hE;have q':((j:Int) == x.level)=false:=beq_eq_false_iff_ne.2 q;clear hE q;rw[hA]at k1 k2 h1 s0 s1 h3 ⊢
  refine inC ?_;go_in;go_wp2_with fail;generalize (w.alloc (.cells #[ii x.now,ii x.base,ii x.done,ii x.level,ii x.left] 431)).alloc (.cells _ 28)=W at *;have l1:=k1.lt;have l2:=k2.lt;replace k1:=k1.cell;replace k2:=k2.cell;refine zW [(12,0)] λK' hK'=>?_;go_wp2_with fail;refine(hT _).mono ?_;rintro _ w2 ⟨rfl,h0⟩;replace h0:=(Below.refl W.heap.size W).drew.trans h0;refine zGZ (fO h0 _) ?_;clear hK' K';go_wp2_with fail;go_returns;exact⟨q0w HE.out.symm,bt h1 h0⟩
def q4s(p:Pw) (x:Ls) (j:Nat):Int:=if (j:Int)=x.level then wrap64 ((atD Lv0 p.levels.l j).power * wrap64 (q7l p x j - x.now)) else wrap64 (wrap64 ((atD Lv0 p.levels.l j).power * wrap64 (wrap64 (q7l p x j - x.now) - p.sw)) + wrap64 (p.change * p.sw))
theorem qn8{p:Pw} {x:Ls} (hp:q1y.ok w p) (hx:x.ok) {j:Nat} (ht:j < p.levels.l.length):cP 338 #[.agg #[ii x.now,ii x.base,ii x.done,ii x.level,ii x.left],.agg #[.slice p.levels.A p.levels.l.length p.levels.c,.slice p.naps.A p.naps.l.length p.naps.c,ii p.sw,ii p.idle,ii p.change,ii p.quant,ii p.slow,ii p.ppm],ii j] w λe w'=>e = .returned (ii (q4s p x j))/\bW w w':=by
 have k1:=(Blk.new w 431 #[ii x.now,ii x.base,ii x.done,ii x.level,ii x.left]).alloc (.cells #[.slice p.levels.A p.levels.l.length p.levels.c,.slice p.naps.A p.naps.l.length p.naps.c,ii p.sw,ii p.idle,ii p.change,ii p.quant,ii p.slow,ii p.ppm] 28);have k2:=Blk.new (w.alloc (.cells #[ii x.now,ii x.base,ii x.done,ii x.level,ii x.left] 431)) 28 #[.slice p.levels.A p.levels.l.length p.levels.c,.slice p.naps.A p.naps.l.length p.naps.c,ii p.sw,ii p.idle,ii p.change,ii p.quant,ii p.slow,ii p.ppm];have h1:=(zA w (.cells #[ii x.now,ii x.base,ii x.done,ii x.level,ii x.left] 431)).alloc zp (.cells #[.slice p.levels.A p.levels.l.length p.levels.c,.slice p.naps.A p.naps.l.length p.naps.c,ii p.sw,ii p.idle,ii p.change,ii p.quant,ii p.slow,ii p.ppm] 28);rw[World.size_alloc]at k2
 have hE:q4s p x j=q4s p x j:=rfl
 conv at hE=>rhs;unfold q4s
 generalize q4s p x j=R at *;have hw1:wrap64 (j:Int)=j:=by have:=hp.1.1.len;unfold wrap64;omega
 have hT:=λw' hb=>qia (w:=w') (q1y.keep hp hb) hx ht;generalize q7l p x j=T at *;obtain⟨sb,so,hA,h2,h3⟩:=(qb9.keep hp.1 h1).1.at_ Lv0 ht;rw[show qxk.sz=2 from rfl]at h3
 have s1:=h3 1 _ rfl;generalize atD Lv0 p.levels.l j=y at *;clear h3;rw[hA]at k1 k2 h1 s1 h2 hT ⊢
 have HE:=zhd hE;clear hE;refine inC ?_;go_in;go_wp2_with fail;generalize (w.alloc (.cells #[ii x.now,ii x.base,ii x.done,ii x.level,ii x.left] 431)).alloc (.cells _ 28)=W at *;have l1:=k1.lt;have l2:=k2.lt;have h4:=k1.cell;have h5:=k2.cell;refine zW [(3,0)] λK' hK'=>?_;go_wp2_with fail;refine(hT _ (h1.drew)).mono ?_;rintro _ w2 ⟨rfl,h0⟩;replace h0:=(Below.refl W.heap.size W).drew.trans h0;refine zG (fO h0 _) ?_;clear hK' K';replace h4:=(k1.keep h0).cell;replace h5:=(k2.keep h0).cell;replace s1:=(h0.cell (p:=⟨sb,_,none⟩) h2).trans s1;have hB:=bt h1 h0;replace h2:sb < w2.heap.size:=Nat.lt_of_lt_of_le h2 h0.size;replace l1:w.heap.size < w2.heap.size:=Nat.lt_of_lt_of_le l1 h0.size;replace l2:w.heap.size + 1 < w2.heap.size:=Nat.lt_of_lt_of_le l2 h0.size;have HB:=zhd hB;clear k1 k2 h0 h1 hT hB;by_cases q:(j:Int)=x.level
 .have HR:=zhd (HE.out.trans (if_pos q));have q':((j:Int) == x.level)=true:=beq_iff_eq.2 q;clear HE q;refine wpQuiet_nil ?_;go_wp2_with fail;go_returns;exact⟨q0w HR.out.symm,HB.out⟩
 .have HR:=zhd (HE.out.trans (if_neg q));have q':((j:Int) == x.level)=false:=beq_eq_false_iff_ne.2 q;clear HE q;refine wpQuiet_nil ?_;go_wp2_with fail;go_quiet (fail)
  go_wp2_with fail;go_returns;exact⟨q0w HR.out.symm,q19 HB.out nq⟩
section
open Go.RowKit Go.Maps
structure Rw where
 c:Pc
 call:Int
 what:Int
 wake:Int
 state:Int
 prio:Int
 turn:Int
 next:Int
 park:Bool
def Rw0:Rw:=⟨Pc0,0,0,0,0,0,0,0,false⟩
def Rw.v(x:Rw):Value := .agg #[.int .i64 x.c.prio,.int .i64 x.c.per,.int .i64 x.c.cost,.int .i64 x.call,.int .i64 x.what,.int .i64 x.wake,.int .i64 x.state,.int .i64 x.prio,.int .i64 x.turn,.int .i64 x.next,.bool x.park]
def MpE(es:Array MapEntry) (l:List Rw):Prop:=es.size=l.length/\∀ i,i < l.length->∃ e,es[i]?=some e/\e.key=ii i/\e.val=(atD Rw0 l i).v
def MpB(w:World) (mb:Nat) (l:List Rw):Prop:=∃ es clock,w.heap[mb]?=some (.map es clock)/\MpE es l
theorem MpB.fr{S:Nat->Prop} {l:List Rw} (h:MpB w mb l) (hf:Fr S w w') (hm:¬ S mb):MpB w' mb l:=by
 obtain⟨es,c,h1,h2⟩:=h;exact⟨es,c,(hf.block mb (Array.getElem?_eq_some_iff.1 h1).1 hm).trans h1,h2⟩
theorem MpB.lt{l:List Rw} (h:MpB w mb l):mb < w.heap.size:=by
 obtain⟨es,c,h1,_⟩:=h;exact(Array.getElem?_eq_some_iff.1 h1).1
theorem MpB.keep{l:List Rw} (h:MpB w mb l) (hb:bW w w'):MpB w' mb l:=h.fr (fO hb (λ_=>False)) id
theorem qmi:Tryz.prog.underlying 303=some (.map 3 309):=zk
theorem q34(h:i64 a):keyOf Tryz.prog 3 (.int .i64 a)=some (.int .i64 a):=keyOf_int_mk q79 (WalkArith.wf_i64 (by unfold i64 at h;omega))
theorem MpE.keys{es:Array MapEntry} {l:List Rw} (h:MpE es l) (hl:l.length<=1000):∀ e ∈ es.toList,∃ x,keyOf Tryz.prog 3 e.key=some x:=by
 intro e he;obtain⟨i,hi,rfl⟩:=List.getElem_of_mem he;have h0:i < es.size:=by simpa using hi
 obtain⟨e',h1,h2,_⟩:=h.2 i (by rw[<- h.1];exact h0);rw[Array.getElem?_eq_getElem h0]at h1
 cases h1;exact⟨_,by rw[Array.getElem_toList,h2];exact q34 (by have:=h.1;unfold i64;omega)⟩
theorem MpE.find{es:Array MapEntry} {l:List Rw} (h:MpE es l) (hl:l.length<=1000) {k:Int} (hk:i64 k) :
  ((Instr.findKey 3 (.int .i64 k) es.toList).run Tryz.prog w = .ok none w/\¬ (0<=k/\k < l.length))\/∃ j:Nat,∃ e,k=j/\j < l.length/\(Instr.findKey 3 (.int .i64 k) es.toList).run Tryz.prog w = .ok (some (j,(atD Rw0 l j).v)) w/\es[j]?=some e/\e.key = .int .i64 j:=by
 rcases(int_keyed q79).find w (q34 hk) es.toList (h.keys hl) with ⟨h1,h2⟩ | ⟨j,e,h1,h2,h3⟩
 .refine .inl ⟨h1,λ⟨a,b⟩=>?_⟩;obtain⟨n,rfl⟩:=Int.eq_ofNat_of_zero_le a;obtain⟨e,he,h0,_⟩:=h.2 n zo;exact h2 e (List.mem_of_getElem? (by rw[Array.getElem?_toList];exact he)) h0
 .rw[Array.getElem?_toList]at h2
  have hj:j < l.length:=by rw[<- h.1];exact(Array.getElem?_eq_some_iff.1 h2).1
  obtain⟨e',he,h0,hv⟩:=h.2 j hj;rw[h2]at he
  cases he;rw[h3]at h0
  injection h0 with _ h0
  exact .inr ⟨j,e,h0,hj,by rw[h1,hv],h2,by rw[h3,h0]⟩
theorem qa0{l:List Rw} (h:MpB w mb l) (hl:l.length<=1000) {k:Nat} (hk:k < l.length) (c:Bool) :
  (Instr.lookup 303 (.map (some mb)) (.int .i64 k) c).run Tryz.prog w = .ok (if c then .tuple #[(atD Rw0 l k).v,.bool true] else (atD Rw0 l k).v) w:=by
 obtain⟨es,clock,hb,he⟩:=h;have hi:i64 (k:Int):=by unfold i64;omega
 rcases he.find (w:=w) hl hi with ⟨_,h2⟩ | ⟨j,e,h1,h2,h3,_⟩
 .exact absurd ⟨zo,zo⟩ h2
 .obtain rfl:k=j:=zo;cases c <;> simp[Instr.lookup,run_underlying qmi,MapKept.run_getObj_map hb,(int_keyed q79).check w _ (q34 hi),h3,Result.andThen]
theorem quz{l:List Rw} (h:MpB w mb l) (hl:l.length<=1000) {k:Int} (hi:i64 k) (hk:¬ (0<=k/\k < l.length)) :
  (Instr.lookup 303 (.map (some mb)) (.int .i64 k) true).run Tryz.prog w = .ok (.tuple #[Rw0.v,.bool false]) w:=by
 obtain⟨es,clock,hb,he⟩:=h;rcases he.find (w:=w) hl hi with ⟨h1,_⟩ | ⟨j,e,h1,h2,_⟩
 .simp[Instr.lookup,run_underlying qmi,MapKept.run_getObj_map hb,(int_keyed q79).check w _ (q34 hi),h1,Result.andThen];rfl
 .exact absurd ⟨zo,zo⟩ hk
theorem qxw{l:List Rw} (h:MpB w mb l) (ty:TypeId):(Builtin.len_ #[303] ty #[.map (some mb)]).run Tryz.prog w = .ok (ii l.length) w:=by
 obtain⟨es,clock,hb,he⟩:=h;simp[Builtin.len_,run_underlying qmi,MapKept.run_getObj_map hb,he.1,goInt]
theorem qcy(l:List Rw) (i j:Nat) (v:Rw) (hi:i < l.length):atD Rw0 (l.set i v) j=if j=i then v else atD Rw0 l j:=by
 unfold atD;rw[List.getD_eq_getElem?_getD,List.getD_eq_getElem?_getD,List.getElem?_set];by_cases h:i=j
 .subst h;simp[hi]
 .simp[h,Ne.symm h]
theorem qmj(w:World) (mb:Nat) (o:Obj):Fr (λk=>k=mb) w { w with heap:=w.heap.setIfInBounds mb o } :=
 ⟨rfl,rfl,rfl,zp,λk _ hn=>by simp only;rw[Array.getElem?_setIfInBounds_ne (λe=>hn e.symm)]⟩
theorem qi0{l:List Rw} (h:MpB w mb l) (hl:l.length<=1000) {k:Nat} (hk:k < l.length) (x:Rw) :
  ∃ w',(Instr.mapUpdate 303 (.map (some mb)) (.int .i64 k) x.v).run Tryz.prog w = .ok () w'/\MpB w' mb (l.set k x)/\Fr (λk=>k=mb) w w':=by
 obtain⟨es,h0,hb,he⟩:=h;have hi:i64 (k:Int):=by unfold i64;omega
 rcases he.find (w:=w) hl hi with ⟨_,h2⟩ | ⟨j,e,h1,h2,h3,h4,h5⟩
 .exact absurd ⟨zo,zo⟩ h2
 obtain rfl:k=j:=zo;have h6:mb < w.heap.size:=(Array.getElem?_eq_some_iff.1 hb).1;refine⟨_,by simp[Instr.mapUpdate,run_underlying qmi,MapKept.run_getObj_map hb,(int_keyed q79).check w _ (q34 hi),h3,h4,h5,(int_keyed q79).stays w (q34 hi),MapKept.run_setObj_map _ hb,Result.andThen];rfl,⟨es.modify k λe=>{ e with key := .int .i64 k,val:=x.v },h0,?_,?_,?_⟩,qmj _ _ _⟩
 .simp[h6]
 .rw[Array.size_modify,List.length_set];exact he.1
 .intro i hil;rw[List.length_set]at hil
  obtain⟨e',a1,a2,a3⟩:=he.2 i hil;rw[Array.getElem?_modify,qcy _ _ _ _ hk];by_cases q:k=i
  .subst q;rw[if_pos rfl,a1,if_pos rfl];exact⟨_,rfl,rfl,rfl⟩
  .rw[if_neg q,if_neg (Ne.symm q)];exact⟨e',a1,a2,a3⟩
theorem qv0{l:List Rw} (h:MpB w mb l) (hl:l.length<=1000) (x:Rw) :
  ∃ w',(Instr.mapUpdate 303 (.map (some mb)) (.int .i64 l.length) x.v).run Tryz.prog w = .ok () w'/\MpB w' mb (l ++ [x])/\Fr (λk=>k=mb) w w':=by
 obtain⟨es,h0,hb,he⟩:=h;have hi:i64 (l.length:Int):=by unfold i64;omega
 have h3:mb < w.heap.size:=(Array.getElem?_eq_some_iff.1 hb).1;rcases he.find (w:=w) hl hi with ⟨h1,_⟩ | ⟨j,e,h1,h2,_⟩;rotate_left
 .omega
 refine⟨_,by simp[Instr.mapUpdate,run_underlying qmi,MapKept.run_getObj_map hb,(int_keyed q79).check w _ (q34 hi),h1,MapKept.run_setObj_map _ hb,Result.andThen];rfl,⟨es.push { key := .int .i64 l.length,val:=x.v,born:=h0 },h0 + 1,?_,?_,?_⟩,qmj _ _ _⟩
 .simp[h3]
 .rw[Array.size_push,List.length_append,he.1];rfl
 .intro i hil;rw[List.length_append,List.length_singleton]at hil
  by_cases q:i < l.length
  .obtain⟨e',a1,a2,a3⟩:=he.2 i q;refine⟨e',?_,a2,?_⟩
   .rw[Array.getElem?_push,if_neg (by rw[he.1];omega)];exact a1
   .rw[a3];unfold atD;rw[List.getD_eq_getElem?_getD,List.getD_eq_getElem?_getD,List.getElem?_append_left q]
  .obtain rfl:i=l.length:=zo;refine⟨_,by rw[Array.getElem?_push,if_pos he.1.symm],rfl,?_⟩;simp[atD]
theorem qxx(w:World):MpB (w.alloc (.map #[] 0)) w.heap.size []:=⟨#[],0,heap_alloc_new w _,rfl,λi h=>by simp at h⟩
end
structure TbR(w:World) (t mb:Nat) (l:List Rw) (tn:Int):Prop where
 kt:Blk w t 305 #[.map (some mb),ii tn]
 km:MpB w mb l
 ne:t≠mb
 n:l.length<=8
def TbS(t mb:Nat):Nat->Prop:=λk=>k=t\/k=mb
def q3o(l:List Rw) (k:Int):Rw×Bool:=if 0<=k/\k < l.length then (atD Rw0 l k.toNat,true) else (Rw0,false)
def qqn(tn state:Int):Int:=if state=1\/state=2 then wrap64 (tn + 1) else tn
def qi1(tn:Int) (p:Rw) (state:Int):Rw :=
 let q:=if state=1\/state=2 then { p with state:=state,turn:=wrap64 (tn + 1) } else { p with state:=state }
 if state=2 then q else { q with call:=0,what:=0,wake:=0 }
section
variable{w:World} {t mb:Nat} {l:List Rw} {tn:Int} (H:TbR w t mb l tn)
include H
theorem TbR.keep(hb:bW w w'):TbR w' t mb l tn:=⟨H.kt.keep hb,H.km.keep hb,H.ne,H.n⟩
theorem TbR.fr{S:Nat->Prop} (hf:Fr S w w') (h1:¬ S t) (h2:¬ S mb):TbR w' t mb l tn:=⟨H.kt.fr hf h1,H.km.fr hf h2,H.ne,H.n⟩
theorem q7f:cP 119 #[pp t] w λe w'=>e = .returned (ii l.length)/\w=w':=by
 have k:=H.kt.cell;have hl:=λty=>qxw H.km ty;refine inC ?_;go_in;go_wp2;go_returns;exact⟨rfl,rfl⟩
theorem q3p{k:Int} (hk:i64 k):cP 240 #[pp t,ii k] w λe w'=>e = .returned (.tuple #[(q3o l k).1.v,.bool (q3o l k).2])/\bW w w':=by
 have b0:=zA w (.cells #[ii Rw0.c.prio,ii Rw0.c.per,ii Rw0.c.cost,ii Rw0.call,ii Rw0.what,ii Rw0.wake,ii Rw0.state,ii Rw0.prio,ii Rw0.turn,ii Rw0.next,.bool Rw0.park] 309);obtain⟨kt,lt⟩:=H.kt.cl;have H1:=H.keep b0;have hn:l.length<=1000:=by have:=H.n;omega
 obtain⟨x,hx⟩:∃ x,x=q3o l k:=⟨_,rfl⟩
 have h0:(Instr.lookup 303 (.map (some mb)) (ii k) true).run Tryz.prog (w.alloc (.cells #[ii Rw0.c.prio,ii Rw0.c.per,ii Rw0.c.cost,ii Rw0.call,ii Rw0.what,ii Rw0.wake,ii Rw0.state,ii Rw0.prio,ii Rw0.turn,ii Rw0.next,.bool Rw0.park] 309)) = .ok (.tuple #[x.1.v,.bool x.2]) (w.alloc (.cells #[ii Rw0.c.prio,ii Rw0.c.per,ii Rw0.c.cost,ii Rw0.call,ii Rw0.what,ii Rw0.wake,ii Rw0.state,ii Rw0.prio,ii Rw0.turn,ii Rw0.next,.bool Rw0.park] 309)):=by
  rw[hx];unfold q3o;by_cases q:0<=k/\k < l.length
  .rw[if_pos q];obtain⟨j,rfl⟩:=Int.eq_ofNat_of_zero_le q.1;rw[Int.toNat_natCast];exact qa0 H1.km hn zo true
  .rw[if_neg q];exact quz H1.km hn hk q
 rw[<- hx];obtain⟨r,b⟩:=x;clear hx;simp only[Rw0,Pc0,Rw.v]at h0;refine inC ?_;go_in;go_wp2;go_returns;exact⟨rfl,zv⟩
theorem q98{k:Nat} (hk:k < l.length) {x:Rw} {s:Int} : cP 241 #[pp t,ii k,.agg #[ii x.c.prio,ii x.c.per,ii x.c.cost,ii x.call,ii x.what,ii x.wake,ii x.state,ii x.prio,ii x.turn,ii x.next,.bool x.park],ii s] w λe w'=>e = .returned (.tuple #[])/\TbR w' t mb (l.set k (qi1 tn x s)) (qqn tn s)/\Fr (TbS t mb) w w':=by
 have b0:=zA w (.cells #[ii x.c.prio,ii x.c.per,ii x.c.cost,ii x.call,ii x.what,ii x.wake,ii x.state,ii x.prio,ii x.turn,ii x.next,.bool x.park] 309);have kb:=Blk.new w 309 #[ii x.c.prio,ii x.c.per,ii x.c.cost,ii x.call,ii x.what,ii x.wake,ii x.state,ii x.prio,ii x.turn,ii x.next,.bool x.park];have h6:w.heap.size≠t:=by have:=H.kt.lt;omega
 have h7:w.heap.size≠mb:=by have:=H.km.lt;omega
 have H1:=H.keep b0;have hn:l.length<=1000:=by have:=H.n;omega
 refine inC ?_;go_in;go_upto_region 1 with fail;have f0:=fO b0 (TbS t mb);generalize w.alloc (.cells #[ii x.c.prio,ii x.c.per,ii x.c.cost,ii x.call,ii x.what,ii x.wake,ii x.state,ii x.prio,ii x.turn,ii x.next,.bool x.park] 309)=w1 at *;obtain⟨g,hg⟩:∃ g,g=w.heap.size:=⟨_,rfl⟩
 have hgw:w.heap.size<=g:=zo;rw[<- hg]at kb h6 h7 ⊢
 clear hg b0 H;have kc:=kb.cell;have kf:=kb.frozen;have tc:=H1.kt.cell;have tf:=H1.kt.frozen;have lt:=H1.kt.lt;have lg:=kb.lt;have h0:=h6.symm;have h1:∀ S:Nat->Prop,g < w.heap.size->S g:=λS h=>absurd h zo;by_cases q2:s=2
 .subst q2;have e1:qi1 tn x 2={ x with state:=2,turn:=wrap64 (tn + 1) }:=rfl;have e2:qqn tn 2=(wrap64 (tn + 1)):=rfl;have h4:Blk (((w1.setCell ⟨g,6,none⟩ (ii 2)).setCell ⟨t,1,none⟩ (ii (wrap64 (tn + 1)))).setCell ⟨g,8,none⟩ (ii (wrap64 (tn + 1)))) g 309 #[ii x.c.prio,ii x.c.per,ii x.c.cost,ii x.call,ii x.what,ii x.wake,ii 2,ii x.prio,ii (wrap64 (tn + 1)),ii x.next,.bool x.park]:=(((kb.set_ 6 (ii 2)).far (p:=⟨t,1,none⟩) h6 (ii (wrap64 (tn + 1)))).set_ 8 (ii (wrap64 (tn + 1))))
  have h3:Blk (((w1.setCell ⟨g,6,none⟩ (ii 2)).setCell ⟨t,1,none⟩ (ii (wrap64 (tn + 1)))).setCell ⟨g,8,none⟩ (ii (wrap64 (tn + 1)))) t 305 #[.map (some mb),ii (wrap64 (tn + 1))]:=(((H1.kt.far (p:=⟨g,6,none⟩) h0 (ii 2)).set_ 1 (ii (wrap64 (tn + 1)))).far (p:=⟨g,8,none⟩) h0 (ii (wrap64 (tn + 1))))
  have h5:MpB (((w1.setCell ⟨g,6,none⟩ (ii 2)).setCell ⟨t,1,none⟩ (ii (wrap64 (tn + 1)))).setCell ⟨g,8,none⟩ (ii (wrap64 (tn + 1)))) mb l:=H1.km.fr ((((Fr.refl (λk=>k=g\/k=t) w1).setCell (p:=⟨g,6,none⟩) (λ_ => .inl rfl) (ii 2)).setCell (p:=⟨t,1,none⟩) (λ_ => .inr rfl) (ii (wrap64 (tn + 1)))).setCell (p:=⟨g,8,none⟩) (λ_ => .inl rfl) (ii (wrap64 (tn + 1)))) (by rintro(h | h);exact h7 h.symm;exact H1.ne h.symm);have fW:Fr (TbS t mb) w (((w1.setCell ⟨g,6,none⟩ (ii 2)).setCell ⟨t,1,none⟩ (ii (wrap64 (tn + 1)))).setCell ⟨g,8,none⟩ (ii (wrap64 (tn + 1)))):=(((f0.setCell (p:=⟨g,6,none⟩) (h1 _) (ii 2)).setCell (p:=⟨t,1,none⟩) (λ_ => .inl rfl) (ii (wrap64 (tn + 1)))).setCell (p:=⟨g,8,none⟩) (h1 _) (ii (wrap64 (tn + 1))))
  go_wp2_with fail;generalize (((w1.setCell ⟨g,6,none⟩ (ii 2)).setCell ⟨t,1,none⟩ (ii (wrap64 (tn + 1)))).setCell ⟨g,8,none⟩ (ii (wrap64 (tn + 1))))=w2 at *;clear kb kc kf tc tf lt lg;obtain⟨w3,h2,m3,f3⟩:=qi0 (h5.fr ((Fr.refl (λ_=>False) w2).drew) id) hn hk { x with state:=2,turn:=wrap64 (tn + 1) };have kc:=h4.cell;obtain⟨tc,lt⟩:=h3.cl;have lg:=h4.lt;unfold Rw.v at h2;go_still_tail 6,zk
  go_wp2_with fail;go_returns
  try rw[e1,e2]
  refine⟨rfl,?_,fW.drew.trans' f3 λk _ h => .inr h⟩;exact⟨(h3.fr ((Fr.refl (λ_=>False) w2).drew) id).fr f3 H1.ne,m3,H1.ne,by rw[List.length_set];exact H1.n⟩
 by_cases q1:s=1
 .subst q1;have e1:qi1 tn x 1={ x with state:=1,turn:=wrap64 (tn + 1),call:=0,what:=0,wake:=0 }:=rfl;have e2:qqn tn 1=(wrap64 (tn + 1)):=rfl;have h4:Blk ((((((w1.setCell ⟨g,6,none⟩ (ii 1)).setCell ⟨t,1,none⟩ (ii (wrap64 (tn + 1)))).setCell ⟨g,8,none⟩ (ii (wrap64 (tn + 1)))).setCell ⟨g,3,none⟩ (ii 0)).setCell ⟨g,4,none⟩ (ii 0)).setCell ⟨g,5,none⟩ (ii 0)) g 309 #[ii x.c.prio,ii x.c.per,ii x.c.cost,ii 0,ii 0,ii 0,ii 1,ii x.prio,ii (wrap64 (tn + 1)),ii x.next,.bool x.park]:=((((((kb.set_ 6 (ii 1)).far (p:=⟨t,1,none⟩) h6 (ii (wrap64 (tn + 1)))).set_ 8 (ii (wrap64 (tn + 1)))).set_ 3 (ii 0)).set_ 4 (ii 0)).set_ 5 (ii 0))
  have h3:Blk ((((((w1.setCell ⟨g,6,none⟩ (ii 1)).setCell ⟨t,1,none⟩ (ii (wrap64 (tn + 1)))).setCell ⟨g,8,none⟩ (ii (wrap64 (tn + 1)))).setCell ⟨g,3,none⟩ (ii 0)).setCell ⟨g,4,none⟩ (ii 0)).setCell ⟨g,5,none⟩ (ii 0)) t 305 #[.map (some mb),ii (wrap64 (tn + 1))]:=((((((H1.kt.far (p:=⟨g,6,none⟩) h0 (ii 1)).set_ 1 (ii (wrap64 (tn + 1)))).far (p:=⟨g,8,none⟩) h0 (ii (wrap64 (tn + 1)))).far (p:=⟨g,3,none⟩) h0 (ii 0)).far (p:=⟨g,4,none⟩) h0 (ii 0)).far (p:=⟨g,5,none⟩) h0 (ii 0))
  have h5:MpB ((((((w1.setCell ⟨g,6,none⟩ (ii 1)).setCell ⟨t,1,none⟩ (ii (wrap64 (tn + 1)))).setCell ⟨g,8,none⟩ (ii (wrap64 (tn + 1)))).setCell ⟨g,3,none⟩ (ii 0)).setCell ⟨g,4,none⟩ (ii 0)).setCell ⟨g,5,none⟩ (ii 0)) mb l:=H1.km.fr (((((((Fr.refl (λk=>k=g\/k=t) w1).setCell (p:=⟨g,6,none⟩) (λ_ => .inl rfl) (ii 1)).setCell (p:=⟨t,1,none⟩) (λ_ => .inr rfl) (ii (wrap64 (tn + 1)))).setCell (p:=⟨g,8,none⟩) (λ_ => .inl rfl) (ii (wrap64 (tn + 1)))).setCell (p:=⟨g,3,none⟩) (λ_ => .inl rfl) (ii 0)).setCell (p:=⟨g,4,none⟩) (λ_ => .inl rfl) (ii 0)).setCell (p:=⟨g,5,none⟩) (λ_ => .inl rfl) (ii 0)) (by rintro(h | h);exact h7 h.symm;exact H1.ne h.symm);have fW:Fr (TbS t mb) w ((((((w1.setCell ⟨g,6,none⟩ (ii 1)).setCell ⟨t,1,none⟩ (ii (wrap64 (tn + 1)))).setCell ⟨g,8,none⟩ (ii (wrap64 (tn + 1)))).setCell ⟨g,3,none⟩ (ii 0)).setCell ⟨g,4,none⟩ (ii 0)).setCell ⟨g,5,none⟩ (ii 0)):=((((((f0.setCell (p:=⟨g,6,none⟩) (h1 _) (ii 1)).setCell (p:=⟨t,1,none⟩) (λ_ => .inl rfl) (ii (wrap64 (tn + 1)))).setCell (p:=⟨g,8,none⟩) (h1 _) (ii (wrap64 (tn + 1)))).setCell (p:=⟨g,3,none⟩) (h1 _) (ii 0)).setCell (p:=⟨g,4,none⟩) (h1 _) (ii 0)).setCell (p:=⟨g,5,none⟩) (h1 _) (ii 0))
  go_wp2_with fail;generalize ((((((w1.setCell ⟨g,6,none⟩ (ii 1)).setCell ⟨t,1,none⟩ (ii (wrap64 (tn + 1)))).setCell ⟨g,8,none⟩ (ii (wrap64 (tn + 1)))).setCell ⟨g,3,none⟩ (ii 0)).setCell ⟨g,4,none⟩ (ii 0)).setCell ⟨g,5,none⟩ (ii 0))=w2 at *;clear kb kc kf tc tf lt lg;obtain⟨w3,h2,m3,f3⟩:=qi0 (h5.fr ((Fr.refl (λ_=>False) w2).drew) id) hn hk { x with state:=1,turn:=wrap64 (tn + 1),call:=0,what:=0,wake:=0 };have kc:=h4.cell;obtain⟨tc,lt⟩:=h3.cl;have lg:=h4.lt;unfold Rw.v at h2;go_still_tail 6,zk
  go_wp2_with fail;go_returns
  try rw[e1,e2]
  refine⟨rfl,?_,fW.drew.trans' f3 λk _ h => .inr h⟩;exact⟨(h3.fr ((Fr.refl (λ_=>False) w2).drew) id).fr f3 H1.ne,m3,H1.ne,by rw[List.length_set];exact H1.n⟩
 .have b1:(s == 1)=false:=beq_eq_false_iff_ne.2 q1;have b2:(s == 2)=false:=beq_eq_false_iff_ne.2 q2;have b3:(s != 2)=true:=by simpa using q2
  have e1:qi1 tn x s={ x with state:=s,call:=0,what:=0,wake:=0 }:=by unfold qi1;simp[q1,q2]
  have e2:qqn tn s=tn:=by unfold qqn;simp[q1,q2]
  have h4:Blk ((((w1.setCell ⟨g,6,none⟩ (ii s)).setCell ⟨g,3,none⟩ (ii 0)).setCell ⟨g,4,none⟩ (ii 0)).setCell ⟨g,5,none⟩ (ii 0)) g 309 #[ii x.c.prio,ii x.c.per,ii x.c.cost,ii 0,ii 0,ii 0,ii s,ii x.prio,ii x.turn,ii x.next,.bool x.park]:=((((kb.set_ 6 (ii s)).set_ 3 (ii 0)).set_ 4 (ii 0)).set_ 5 (ii 0))
  have h3:Blk ((((w1.setCell ⟨g,6,none⟩ (ii s)).setCell ⟨g,3,none⟩ (ii 0)).setCell ⟨g,4,none⟩ (ii 0)).setCell ⟨g,5,none⟩ (ii 0)) t 305 #[.map (some mb),ii tn]:=((((H1.kt.far (p:=⟨g,6,none⟩) h0 (ii s)).far (p:=⟨g,3,none⟩) h0 (ii 0)).far (p:=⟨g,4,none⟩) h0 (ii 0)).far (p:=⟨g,5,none⟩) h0 (ii 0))
  have h5:MpB ((((w1.setCell ⟨g,6,none⟩ (ii s)).setCell ⟨g,3,none⟩ (ii 0)).setCell ⟨g,4,none⟩ (ii 0)).setCell ⟨g,5,none⟩ (ii 0)) mb l:=H1.km.fr (((((Fr.refl (λk=>k=g\/k=t) w1).setCell (p:=⟨g,6,none⟩) (λ_ => .inl rfl) (ii s)).setCell (p:=⟨g,3,none⟩) (λ_ => .inl rfl) (ii 0)).setCell (p:=⟨g,4,none⟩) (λ_ => .inl rfl) (ii 0)).setCell (p:=⟨g,5,none⟩) (λ_ => .inl rfl) (ii 0)) (by rintro(h | h);exact h7 h.symm;exact H1.ne h.symm);have fW:Fr (TbS t mb) w ((((w1.setCell ⟨g,6,none⟩ (ii s)).setCell ⟨g,3,none⟩ (ii 0)).setCell ⟨g,4,none⟩ (ii 0)).setCell ⟨g,5,none⟩ (ii 0)):=((((f0.setCell (p:=⟨g,6,none⟩) (h1 _) (ii s)).setCell (p:=⟨g,3,none⟩) (h1 _) (ii 0)).setCell (p:=⟨g,4,none⟩) (h1 _) (ii 0)).setCell (p:=⟨g,5,none⟩) (h1 _) (ii 0))
  go_wp2_with fail;generalize ((((w1.setCell ⟨g,6,none⟩ (ii s)).setCell ⟨g,3,none⟩ (ii 0)).setCell ⟨g,4,none⟩ (ii 0)).setCell ⟨g,5,none⟩ (ii 0))=w2 at *;clear kb kc kf tc tf lt lg;obtain⟨w3,h2,m3,f3⟩:=qi0 (h5.fr ((Fr.refl (λ_=>False) w2).drew) id) hn hk { x with state:=s,call:=0,what:=0,wake:=0 };have kc:=h4.cell;obtain⟨tc,lt⟩:=h3.cl;have lg:=h4.lt;unfold Rw.v at h2;go_still_tail 6,zk
  go_wp2_with fail;go_returns
  try rw[e1,e2]
  refine⟨rfl,?_,fW.drew.trans' f3 λk _ h => .inr h⟩;exact⟨(h3.fr ((Fr.refl (λ_=>False) w2).drew) id).fr f3 H1.ne,m3,H1.ne,by rw[List.length_set];exact H1.n⟩
end
def q4n(x:Rw):Bool:=x.state == 1 && !x.park
def qej(x y:Rw):Bool:=if x.prio≠y.prio then decide (y.prio < x.prio) else decide (x.turn < y.turn)
theorem qmk{x:Rw} : cP 334 #[.agg #[ii x.c.prio,ii x.c.per,ii x.c.cost,ii x.call,ii x.what,ii x.wake,ii x.state,ii x.prio,ii x.turn,ii x.next,.bool x.park]] w λe w'=>e = .returned (.bool (q4n x))/\bW w w':=by
 unfold q4n;cases hx:(x.state == 1)
 .refine inC ?_;go_in;go_wp2_with fail
  all_goals (go_returns;refine⟨rfl,zv⟩)
 .refine inC ?_;go_in;go_wp2_with fail
  all_goals (go_returns;refine⟨q5k zp,zv⟩)
theorem qml{x y:Rw} : cP 379 #[.agg #[ii x.c.prio,ii x.c.per,ii x.c.cost,ii x.call,ii x.what,ii x.wake,ii x.state,ii x.prio,ii x.turn,ii x.next,.bool x.park],.agg #[ii y.c.prio,ii y.c.per,ii y.c.cost,ii y.call,ii y.what,ii y.wake,ii y.state,ii y.prio,ii y.turn,ii y.next,.bool y.park]] w λe w'=>e = .returned (.bool (qej x y))/\bW w w':=by
 unfold qej;by_cases q:x.prio=y.prio
 .have b1:(x.prio != y.prio)=false:=by simp[q]
  rw[if_neg (λh=>h q)];refine inC ?_;go_in;go_wp2_with fail
  all_goals (go_returns;refine⟨rfl,zv⟩)
 .have b1:(x.prio != y.prio)=true:=by simp[q]
  rw[if_pos q];refine inC ?_;go_in;go_wp2_with fail
  all_goals (go_returns;refine⟨rfl,zv⟩)
def q6n(l:List Rw) (tn k win:Int):Bool×List Rw×Int :=
 if 0<=k/\k < l.length then
  if (atD Rw0 l k.toNat).state=0 then (true,l.set k.toNat (qi1 tn { atD Rw0 l k.toNat with prio:=(atD Rw0 l k.toNat).c.prio,next:=wrap64 (win + (atD Rw0 l k.toNat).c.per) } 1),qqn tn 1) else (false,l,tn)
 else (false,l,tn)
def setS(l:List Rw) (tn k s:Int):Bool×List Rw×Int :=
 if 0<=k/\k < l.length then
  if s < 0\/5<=s\/s=2 then (false,l,tn) else (true,l.set k.toNat (qi1 tn (atD Rw0 l k.toNat) s),qqn tn s)
 else (false,l,tn)
def qbb(l:List Rw) (tn k call what wake:Int):Bool×List Rw×Int :=
 if 0<=k/\k < l.length then (true,l.set k.toNat (qi1 tn { atD Rw0 l k.toNat with call:=call,what:=what,wake:=wake } 2),qqn tn 2) else (false,l,tn)
def qek(l:List Rw) (k prio:Int):Bool×List Rw :=
 if 0<=k/\k < l.length then
  if prio < 0\/63 < prio then (false,l) else (true,l.set k.toNat { atD Rw0 l k.toNat with prio:=prio })
 else (false,l)
def qa1(l:List Rw) (k:Int):Bool×List Rw :=
 if 0<=k/\k < l.length then (true,l.set k.toNat { atD Rw0 l k.toNat with park:=true }) else (false,l)
theorem q5s{l:List Rw} {k:Nat} (h:k < l.length):q3o l k=(atD Rw0 l k,true):=by
 unfold q3o;rw[if_pos ⟨zo,zo⟩];rfl
theorem q5t{l:List Rw} {k:Int} (h:¬ (0<=k/\k < l.length)):q3o l k=(Rw0,false):=if_neg h
section
variable{w:World} {t mb:Nat} {l:List Rw} {tn:Int} (H:TbR w t mb l tn)
include H
theorem TbR.set{k:Nat} {x:Rw} {w3:World} (kt:Blk w3 t 305 #[.map (some mb),ii tn]) (km:MpB w3 mb (l.set k x)):TbR w3 t mb (l.set k x) tn:=⟨kt,km,H.ne,by rw[List.length_set];exact H.n⟩
theorem TbR.upd'(hb:bW w W) {k:Nat} (hk:k < l.length) (x:Rw):∃ w3,(Instr.mapUpdate 303 (.map (some mb)) (ii k) x.v).run Tryz.prog W.drew = .ok () w3/\TbR w3 t mb (l.set k x) tn/\Fr (TbS t mb) w w3/\Fr (TbS t mb) W w3:=by
 have H1:=H.keep hb;have fd:=(Fr.refl (λ_=>False) W).drew;obtain⟨w3,h1,h2,h3⟩:=qi0 (H1.km.fr fd id) (by have:=H.n;omega) hk x;exact⟨w3,h1,H.set ((H1.kt.fr fd id).fr h3 H.ne) h2,(fO hb _).drew.trans' h3 λk _ h => .inr h,(Fr.refl _ _).drew.trans' h3 λk _ h => .inr h⟩
theorem TbR.upd(hb:bW w W) {k:Nat} (hk:k < l.length) (x:Rw):∃ w3,(Instr.mapUpdate 303 (.map (some mb)) (ii k) x.v).run Tryz.prog W.drew = .ok () w3/\TbR w3 t mb (l.set k x) tn/\Fr (TbS t mb) w w3 :=
 let ⟨w3,h1,h2,h3,_⟩:=H.upd' hb hk x
 ⟨w3,h1,h2,h3⟩
theorem qjl{k:Int} (hk:i64 k):cP 343 #[pp t,ii k] w λe w'=>e = .returned (ii (q3o l k).1.state)/\bW w w':=by
 have hF:=q3p H hk;generalize q3o l k=R at *;obtain⟨x,b⟩:=R;simp only[Rw.v]at hF;refine inC ?_;go_in;go_wp2_with (first | (refine uW hF ?_;rintro w1 ⟨hb,hs,hc,hf,hl,hB⟩))
 all_goals (go_returns;refine⟨rfl,zv⟩)
theorem qjm{k:Int} (hk:i64 k):cP 296 #[pp t,ii k] w λe w'=>e = .returned (.tuple #[ii (q3o l k).1.call,ii (q3o l k).1.what,ii (q3o l k).1.wake])/\bW w w':=by
 have hF:=q3p H hk;generalize q3o l k=R at *;obtain⟨x,b⟩:=R;simp only[Rw.v]at hF;refine inC ?_;go_in;go_wp2_with (first | (refine uW hF ?_;rintro w1 ⟨hb,hs,hc,hf,hl,hB⟩));go_quiet (fail)
 go_wp2_with fail
 all_goals (go_returns;refine⟨rfl,q19 zv nq⟩)
theorem qjn{k win:Int} (hk:i64 k):cP 181 #[pp t,ii k,ii win] w λe w'=>e = .returned (.bool (q6n l tn k win).1)/\TbR w' t mb (q6n l tn k win).2.1 (q6n l tn k win).2.2/\Fr (TbS t mb) w w':=by
 have hF:=q3p H hk;unfold q6n;by_cases q:0<=k/\k < l.length
 .rw[if_pos q];obtain⟨j,rfl⟩:=Int.eq_ofNat_of_zero_le q.1;have hj:j < l.length:=zo;rw[q5s hj]at hF
  rw[Int.toNat_natCast];obtain⟨x,hx⟩:∃ x,x=atD Rw0 l j:=⟨_,rfl⟩
  rw[<- hx]at hF ⊢
  clear hx;simp only[Rw.v]at hF;by_cases q0:x.state=0
  .rw[if_pos q0];have b0:(x.state != 0)=false:=by simp[q0]
   have hP:=λw' (hb:bW w w')=>q98 (H.keep hb) hj (x:={ x with prio:=x.c.prio,next:=wrap64 (win + x.c.per) }) (s:=1);clear q0;refine inC ?_;go_in;go_wp2_with (first | (refine uW hF ?_;rintro w1 ⟨hb,hs,hc,hf,hl,hB⟩) | (go_at_call 241;refine(hP _ zv).mono ?_;rintro _ w2 ⟨rfl,ht,h0⟩))
   all_goals (go_returns;exact⟨rfl,ht,(fO zv _).trans h0⟩)
  .rw[if_neg q0];have b0:(x.state != 0)=true:=by simp[q0]
   refine inC ?_;go_in;go_wp2_with (first | (refine uW hF ?_;rintro w1 ⟨hb,hs,hc,hf,hl,hB⟩))
   all_goals (go_returns;exact⟨rfl,H.keep zv,fO zv _⟩)
 .rw[if_neg q];rw[q5t q]at hF
  simp only[Rw0,Pc0,Rw.v]at hF;refine inC ?_;go_in;go_wp2_with (first | (refine uW hF ?_;rintro w1 ⟨hb,hs,hc,hf,hl,hB⟩))
  all_goals (go_returns;exact⟨rfl,H.keep zv,fO zv _⟩)
theorem qcz{k s:Int} (hk:i64 k):cP 331 #[pp t,ii k,ii s] w λe w'=>e = .returned (.bool (setS l tn k s).1)/\TbR w' t mb (setS l tn k s).2.1 (setS l tn k s).2.2/\Fr (TbS t mb) w w':=by
 have hF:=q3p H hk;unfold setS;by_cases q:0<=k/\k < l.length
 .rw[if_pos q];obtain⟨j,rfl⟩:=Int.eq_ofNat_of_zero_le q.1;have hj:j < l.length:=zo;rw[q5s hj]at hF
  rw[Int.toNat_natCast];obtain⟨x,hx⟩:∃ x,x=atD Rw0 l j:=⟨_,rfl⟩
  rw[<- hx]at hF ⊢
  clear hx;simp only[Rw.v]at hF;by_cases q0:s < 0\/5<=s\/s=2
  .rw[if_pos q0];have b0:(decide (s < 0) || decide (5<=s) || (s == 2))=true:=by simp[q0,or_assoc]
   refine inC ?_;go_in;go_wp2_with (first | (refine uW hF ?_;rintro w1 ⟨hb,hs,hc,hf,hl,hB⟩))
   all_goals (go_returns;exact⟨rfl,H.keep zv,fO zv _⟩)
  .rw[if_neg q0];have b0:decide (s < 0)=false:=by simp;omega
   have b1:decide (5<=s)=false:=by simp;omega
   have b2:(s == 2)=false:=by simp;omega
   have hP:=λw' (hb:bW w w')=>q98 (H.keep hb) hj (x:=x) (s:=s);clear q0;refine inC ?_;go_in;go_wp2_with (first | (refine uW hF ?_;rintro w1 ⟨hb,hs,hc,hf,hl,hB⟩) | (go_at_call 241;refine(hP _ zv).mono ?_;rintro _ w2 ⟨rfl,ht,h0⟩))
   all_goals (go_returns;exact⟨rfl,ht,(fO zv _).trans h0⟩)
 .rw[if_neg q];rw[q5t q]at hF
  simp only[Rw0,Pc0,Rw.v]at hF;refine inC ?_;go_in;go_wp2_with (first | (refine uW hF ?_;rintro w1 ⟨hb,hs,hc,hf,hl,hB⟩))
  all_goals (go_returns;exact⟨rfl,H.keep zv,fO zv _⟩)
theorem qmm{k call wake:Int} (hk:i64 k):cP 385 #[pp t,ii k,ii call,ii what,ii wake] w λe w'=>e = .returned (.bool (qbb l tn k call what wake).1)/\TbR w' t mb (qbb l tn k call what wake).2.1 (qbb l tn k call what wake).2.2/\Fr (TbS t mb) w w':=by
 have hF:=q3p H hk;unfold qbb;by_cases q:0<=k/\k < l.length
 .rw[if_pos q];obtain⟨j,rfl⟩:=Int.eq_ofNat_of_zero_le q.1;have hj:j < l.length:=zo;rw[q5s hj]at hF
  rw[Int.toNat_natCast];obtain⟨x,hx⟩:∃ x,x=atD Rw0 l j:=⟨_,rfl⟩
  rw[<- hx]at hF ⊢
  clear hx;simp only[Rw.v]at hF;have hP:=λw' (hb:bW w w')=>q98 (H.keep hb) hj (x:={ x with call:=call,what:=what,wake:=wake }) (s:=2);refine inC ?_;go_in;go_wp2_with (first | (refine uW hF ?_;rintro w1 ⟨hb,hs,hc,hf,hl,hB⟩) | (go_at_call 241;refine(hP _ zv).mono ?_;rintro _ w2 ⟨rfl,ht,h0⟩))
  all_goals (go_returns;exact⟨rfl,ht,(fO zv _).trans h0⟩)
 .rw[if_neg q];rw[q5t q]at hF
  simp only[Rw0,Pc0,Rw.v]at hF;refine inC ?_;go_in;go_wp2_with (first | (refine uW hF ?_;rintro w1 ⟨hb,hs,hc,hf,hl,hB⟩))
  all_goals (go_returns;exact⟨rfl,H.keep zv,fO zv _⟩)
theorem qel{k:Int} (hk:i64 k):cP 182 #[pp t,ii k] w λe w'=>e = .returned (.bool (qa1 l k).1)/\TbR w' t mb (qa1 l k).2 tn/\Fr (TbS t mb) w w':=by
 have hF:=q3p H hk;unfold qa1;by_cases q:0<=k/\k < l.length
 .rw[if_pos q];obtain⟨j,rfl⟩:=Int.eq_ofNat_of_zero_le q.1;have hj:j < l.length:=zo;rw[q5s hj]at hF
  rw[Int.toNat_natCast];obtain⟨x,hx⟩:∃ x,x=atD Rw0 l j:=⟨_,rfl⟩
  rw[<- hx]at hF ⊢
  clear hx;simp only[Rw.v]at hF;refine inC ?_;go_in;go_wp2_with (first | (refine uW hF ?_;rintro w1 ⟨hb,hs,hc,hf,hl,hB⟩));have b9:bW w (w1.alloc (.cells #[ii x.c.prio,ii x.c.per,ii x.c.cost,ii x.call,ii x.what,ii x.wake,ii x.state,ii x.prio,ii x.turn,ii x.next,.bool true] 309)):=zv;have kb:=Blk.new w1 309 #[ii x.c.prio,ii x.c.per,ii x.c.cost,ii x.call,ii x.what,ii x.wake,ii x.state,ii x.prio,ii x.turn,ii x.next,.bool true];generalize w1.alloc (.cells #[ii x.c.prio,ii x.c.per,ii x.c.cost,ii x.call,ii x.what,ii x.wake,ii x.state,ii x.prio,ii x.turn,ii x.next,.bool true] 309)=w2 at *;obtain⟨w3,h0,h3,f3⟩:=H.upd b9 hj { x with park:=true };have kc:=kb.cell;obtain⟨tc,lt⟩:=(H.keep b9).kt.cl;have lg:=kb.lt;simp only[Rw.v]at h0;go_still_tail 6,zk
  go_wp2_with fail;go_returns;exact⟨rfl,h3,f3⟩
 .rw[if_neg q];rw[q5t q]at hF
  simp only[Rw0,Pc0,Rw.v]at hF;refine inC ?_;go_in;go_wp2_with (first | (refine uW hF ?_;rintro w1 ⟨hb,hs,hc,hf,hl,hB⟩))
  all_goals (go_returns;exact⟨rfl,H.keep zv,fO zv _⟩)
theorem qmn{k prio:Int} (hk:i64 k):cP 344 #[pp t,ii k,ii prio] w λe w'=>e = .returned (.bool (qek l k prio).1)/\TbR w' t mb (qek l k prio).2 tn/\Fr (TbS t mb) w w':=by
 have hF:=q3p H hk;unfold qek;by_cases q:0<=k/\k < l.length
 .rw[if_pos q];obtain⟨j,rfl⟩:=Int.eq_ofNat_of_zero_le q.1;have hj:j < l.length:=zo;rw[q5s hj]at hF
  rw[Int.toNat_natCast];obtain⟨x,hx⟩:∃ x,x=atD Rw0 l j:=⟨_,rfl⟩
  rw[<- hx]at hF ⊢
  clear hx;simp only[Rw.v]at hF;by_cases q0:prio < 0\/63 < prio
  .rw[if_pos q0];have b0:(decide (prio < 0) || decide (63 < prio))=true:=by simp[q0]
   refine inC ?_;go_in;go_wp2_with (first | (refine uW hF ?_;rintro w1 ⟨hb,hs,hc,hf,hl,hB⟩))
   all_goals (go_returns;exact⟨rfl,H.keep zv,fO zv _⟩)
  rw[if_neg q0];have b0:decide (prio < 0)=false:=by simp;omega
  have b1:decide (63 < prio)=false:=by simp;omega
  clear q0;refine inC ?_;go_in;go_wp2_with (first | (refine uW hF ?_;rintro w1 ⟨hb,hs,hc,hf,hl,hB⟩));have b9:bW w (w1.alloc (.cells #[ii x.c.prio,ii x.c.per,ii x.c.cost,ii x.call,ii x.what,ii x.wake,ii x.state,ii prio,ii x.turn,ii x.next,.bool x.park] 309)):=zv;have kb:=Blk.new w1 309 #[ii x.c.prio,ii x.c.per,ii x.c.cost,ii x.call,ii x.what,ii x.wake,ii x.state,ii prio,ii x.turn,ii x.next,.bool x.park];generalize w1.alloc (.cells #[ii x.c.prio,ii x.c.per,ii x.c.cost,ii x.call,ii x.what,ii x.wake,ii x.state,ii prio,ii x.turn,ii x.next,.bool x.park] 309)=w2 at *;obtain⟨w3,h0,h3,f3⟩:=H.upd b9 hj { x with prio:=prio };have kc:=kb.cell;obtain⟨tc,lt⟩:=(H.keep b9).kt.cl;have lg:=kb.lt;simp only[Rw.v]at h0;go_still_tail 6,zk
  go_wp2_with fail;go_returns;exact⟨rfl,h3,f3⟩
 .rw[if_neg q];rw[q5t q]at hF
  simp only[Rw0,Pc0,Rw.v]at hF;refine inC ?_;go_in;go_wp2_with (first | (refine uW hF ?_;rintro w1 ⟨hb,hs,hc,hf,hl,hB⟩))
  all_goals (go_returns;exact⟨rfl,H.keep zv,fO zv _⟩)
end
end Go.Proofs.YtncfcbohiodnnaaGreat
