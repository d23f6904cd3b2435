/- Parts of this seat's claims. -/
import Derived.Test.YtncfcbohiodnnaaGreatW35
set_option maxRecDepth 100000
set_option maxHeartbeats 6400000
namespace Go.Proofs.YtncfcbohiodnnaaGreat
open Go.RowKit
variable{w w' W wa wo W':World} {c n pt r B j b m mb q base cap id B0:Nat} {A:Option Addr} {a code what:Int} {cs:Array Value}
theorem qwn:ElemOf 108 162 1 8:=q1l (z := .pointer none) zk zk rfl zd zd
theorem qwo:ElemOf 109 165 1 8:=q1l (z := .pointer none) zk zk rfl zd zd
def z0u(w:World) (cf:Cf) (s:Sy) (e:Ending) (w':World):Prop:=∃ o x,e = .returned (pp x.y)/\SyR0 w w' o cf x s
structure MadeH(cf:Cf) (sc:Sc):Prop where
 h0:0 < cf.parts.l.length
 h8:cf.parts.l.length<=8
 pl:∀ y ∈ cf.parts.l,∀ c ∈ y.pools.l,c.depth<=1000
 po:∀ y ∈ cf.parts.l,∀ c ∈ y.ports.l,c.depth<=1000
 st:∀ k,∀ h ∈ (q2c sc k).l,h.l.length<=1000
 nl:cf.pw.naps.l.length<=100000/\cf.pw.levels.l.length<=100000
structure Md1(w1 w:World) (cf:Cf) (y sb lb la lc:Nat) (lq:List Nat):Prop where
 B:bW w1 w
 k:Blk w y 112 (mk0 cf sb lb (.pointer none))
 s:Blk w sb 3 ((List.replicate cf.parts.l.length (0:Nat)).map λ(j:Nat)=>(ii (j:Int):Value)).toArray
 L:LdR w lb la lc lq cf (List.replicate cf.parts.l.length 0)
 ge:w1.heap.size<=y/\w1.heap.size<=sb/\w1.heap.size<=lb/\w1.heap.size<=la/\∀ q ∈ lq,w1.heap.size<=q
 ly:la < y
 ls:la≠sb
theorem qt5{w:World} {cf:Cf} {sc:Sc} (hc:q1k.ok w cf) (hs:q73.ok w sc) (H:MadeH cf sc) :
  Calls Tryz.prog 28 #[.agg #[.slice cf.parts.A cf.parts.l.length cf.parts.c,.slice cf.chans.A cf.chans.l.length cf.chans.c,.slice cf.modes.A cf.modes.l.length cf.modes.c,.slice cf.pw.levels.A cf.pw.levels.l.length cf.pw.levels.c,.slice cf.pw.naps.A cf.pw.naps.l.length cf.pw.naps.c,.int .i64 cf.pw.sw,.int .i64 cf.pw.idle,.int .i64 cf.pw.change,.int .i64 cf.pw.quant,.int .i64 cf.pw.slow,.int .i64 cf.pw.ppm,.slice cf.shed.down.A cf.shed.down.l.length cf.shed.down.c,.slice cf.shed.up.A cf.shed.up.l.length cf.shed.up.c],.agg #[.slice sc.progs.A sc.progs.l.length sc.progs.c,.slice sc.frames.A sc.frames.l.length sc.frames.c]] w (z0u w cf (q3i cf sc)):=by
 have k1:=(Blk.new w 33 #[.slice cf.parts.A cf.parts.l.length cf.parts.c,.slice cf.chans.A cf.chans.l.length cf.chans.c,.slice cf.modes.A cf.modes.l.length cf.modes.c,.slice cf.pw.levels.A cf.pw.levels.l.length cf.pw.levels.c,.slice cf.pw.naps.A cf.pw.naps.l.length cf.pw.naps.c,.int .i64 cf.pw.sw,.int .i64 cf.pw.idle,.int .i64 cf.pw.change,.int .i64 cf.pw.quant,.int .i64 cf.pw.slow,.int .i64 cf.pw.ppm,.slice cf.shed.down.A cf.shed.down.l.length cf.shed.down.c,.slice cf.shed.up.A cf.shed.up.l.length cf.shed.up.c]).keep (w':=(w.alloc (.cells #[.slice cf.parts.A cf.parts.l.length cf.parts.c,.slice cf.chans.A cf.chans.l.length cf.chans.c,.slice cf.modes.A cf.modes.l.length cf.modes.c,.slice cf.pw.levels.A cf.pw.levels.l.length cf.pw.levels.c,.slice cf.pw.naps.A cf.pw.naps.l.length cf.pw.naps.c,.int .i64 cf.pw.sw,.int .i64 cf.pw.idle,.int .i64 cf.pw.change,.int .i64 cf.pw.quant,.int .i64 cf.pw.slow,.int .i64 cf.pw.ppm,.slice cf.shed.down.A cf.shed.down.l.length cf.shed.down.c,.slice cf.shed.up.A cf.shed.up.l.length cf.shed.up.c] 33)).alloc (.cells #[.slice sc.progs.A sc.progs.l.length sc.progs.c,.slice sc.frames.A sc.frames.l.length sc.frames.c] 37)) (by go_grown);have k2:Blk ((w.alloc (.cells #[.slice cf.parts.A cf.parts.l.length cf.parts.c,.slice cf.chans.A cf.chans.l.length cf.chans.c,.slice cf.modes.A cf.modes.l.length cf.modes.c,.slice cf.pw.levels.A cf.pw.levels.l.length cf.pw.levels.c,.slice cf.pw.naps.A cf.pw.naps.l.length cf.pw.naps.c,.int .i64 cf.pw.sw,.int .i64 cf.pw.idle,.int .i64 cf.pw.change,.int .i64 cf.pw.quant,.int .i64 cf.pw.slow,.int .i64 cf.pw.ppm,.slice cf.shed.down.A cf.shed.down.l.length cf.shed.down.c,.slice cf.shed.up.A cf.shed.up.l.length cf.shed.up.c] 33)).alloc (.cells #[.slice sc.progs.A sc.progs.l.length sc.progs.c,.slice sc.frames.A sc.frames.l.length sc.frames.c] 37)) (w.heap.size + 1) 37 #[.slice sc.progs.A sc.progs.l.length sc.progs.c,.slice sc.frames.A sc.frames.l.length sc.frames.c]:=by have:=Blk.new (w.alloc (.cells #[.slice cf.parts.A cf.parts.l.length cf.parts.c,.slice cf.chans.A cf.chans.l.length cf.chans.c,.slice cf.modes.A cf.modes.l.length cf.modes.c,.slice cf.pw.levels.A cf.pw.levels.l.length cf.pw.levels.c,.slice cf.pw.naps.A cf.pw.naps.l.length cf.pw.naps.c,.int .i64 cf.pw.sw,.int .i64 cf.pw.idle,.int .i64 cf.pw.change,.int .i64 cf.pw.quant,.int .i64 cf.pw.slow,.int .i64 cf.pw.ppm,.slice cf.shed.down.A cf.shed.down.l.length cf.shed.down.c,.slice cf.shed.up.A cf.shed.up.l.length cf.shed.up.c] 33)) 37 #[.slice sc.progs.A sc.progs.l.length sc.progs.c,.slice sc.frames.A sc.frames.l.length sc.frames.c];simpa using this
 have B1:Below w.heap.size w ((w.alloc (.cells #[.slice cf.parts.A cf.parts.l.length cf.parts.c,.slice cf.chans.A cf.chans.l.length cf.chans.c,.slice cf.modes.A cf.modes.l.length cf.modes.c,.slice cf.pw.levels.A cf.pw.levels.l.length cf.pw.levels.c,.slice cf.pw.naps.A cf.pw.naps.l.length cf.pw.naps.c,.int .i64 cf.pw.sw,.int .i64 cf.pw.idle,.int .i64 cf.pw.change,.int .i64 cf.pw.quant,.int .i64 cf.pw.slow,.int .i64 cf.pw.ppm,.slice cf.shed.down.A cf.shed.down.l.length cf.shed.down.c,.slice cf.shed.up.A cf.shed.up.l.length cf.shed.up.c] 33)).alloc (.cells #[.slice sc.progs.A sc.progs.l.length sc.progs.c,.slice sc.frames.A sc.frames.l.length sc.frames.c] 37)):=by go_grown
 obtain⟨g1,hg1⟩:∃ g1,g1=w.heap.size:=⟨_,rfl⟩
 have HG:=Lib.hid hg1;have HH:=Lib.hid H;have HC:=Lib.hid hc;have HS:=Lib.hid hs;rw[<- hg1]at k1 k2
 clear hs;go_enter Tryz.func28,Tryz.ntmps28;go_upto_region 1 with fail;rw[<- hg1];generalize (w.alloc (.cells #[.slice cf.parts.A cf.parts.l.length cf.parts.c,.slice cf.chans.A cf.chans.l.length cf.chans.c,.slice cf.modes.A cf.modes.l.length cf.modes.c,.slice cf.pw.levels.A cf.pw.levels.l.length cf.pw.levels.c,.slice cf.pw.naps.A cf.pw.naps.l.length cf.pw.naps.c,.int .i64 cf.pw.sw,.int .i64 cf.pw.idle,.int .i64 cf.pw.change,.int .i64 cf.pw.quant,.int .i64 cf.pw.slow,.int .i64 cf.pw.ppm,.slice cf.shed.down.A cf.shed.down.l.length cf.shed.down.c,.slice cf.shed.up.A cf.shed.up.l.length cf.shed.up.c] 33)).alloc (.cells #[.slice sc.progs.A sc.progs.l.length sc.progs.c,.slice sc.frames.A sc.frames.l.length sc.frames.c] 37)=w1 at *;have HK1:=Lib.hid k1;have HK2:=Lib.hid k2;have HB1:=Lib.hid B1;clear k1 k2 B1 hc H hg1;go_cut [5] (λv W=>∃ y sb lb la lc lq,v = .pointer (some ⟨y,0,none⟩)/\Md1 w1 W cf y sb lb la lc lq)
 case first =>
  have k1:=HK1.out;have lg:=k1.lt;obtain⟨cs,hcs⟩:∃ cs,cs=((List.replicate cf.parts.l.length (0:Nat)).map λ(j:Nat)=>(.int .i64 (j:Int):Value)).toArray:=⟨_,rfl⟩
  have hmk:∀ w,(Instr.makeSlice 29 (.int .i64 (cf.parts.l.length:Int)) (.int .i64 (cf.parts.l.length:Int))).run Tryz.prog w = .ok (.slice (some ⟨w.heap.size,0,none⟩) cf.parts.l.length cf.parts.l.length) (w.alloc (.cells cs 3)):=by
   have h:=run_make_row' (P:=Tryz.prog) 29 3 (.int .i64 0) 8 qlq qd9 rfl .i64 .i64 cf.parts.l.length (by have:=HH.out.h8;omega) (by have:=HH.out.h8;omega);rw[qyh]at h
   have e:cs=Array.replicate cf.parts.l.length (.int .i64 0):=by rw[hcs];simp
   rw[e];exact h
  have HCS:=Lib.hid hcs;clear hcs;have HL:Hid (∀ w',Below w1.heap.size w1 w'->Calls Tryz.prog 56 #[.agg #[.slice cf.parts.A cf.parts.l.length cf.parts.c,.slice cf.chans.A cf.chans.l.length cf.chans.c,.slice cf.modes.A cf.modes.l.length cf.modes.c,.slice cf.pw.levels.A cf.pw.levels.l.length cf.pw.levels.c,.slice cf.pw.naps.A cf.pw.naps.l.length cf.pw.naps.c,.int .i64 cf.pw.sw,.int .i64 cf.pw.idle,.int .i64 cf.pw.change,.int .i64 cf.pw.quant,.int .i64 cf.pw.slow,.int .i64 cf.pw.ppm,.slice cf.shed.down.A cf.shed.down.l.length cf.shed.down.c,.slice cf.shed.up.A cf.shed.up.l.length cf.shed.up.c]] w' λe w2=>qzc w' cf e w2):=λw' hb=>qsu (q53.keep HC.out.1 (bt HB1.out hb)) HH.out.h0 (Nat.le_trans HH.out.h8 (by decide));have hz:(w1.drew).heap.size=w1.heap.size:=rfl;have kc:=k1.cell;clear k1;refine qdq (λ_=>False) [0,1,3,4,5] 2 6 [7,8,9] [(5,0),(0,0),(1,0)] (by kernel_rfl) (by kernel_rfl) ?_ ?_
  .simp only[q71,q25,List.take,List.drop,List.cons_append,List.nil_append]
   repeat(go_big_quiet_step (fail))
   refine wpQuiet_nil (q04 rfl (λK' hK'=>?_));go_wp2_with fail;go_at_call 56
   refine(HL.out _ (Below.refl _ _).drew).mono ?_;rintro _ w2 ⟨ls,la,lc,lq,rfl,HD,h1,h2,h3,hB2⟩;have B2:Below w1.heap.size w1 w2:=bt (Below.refl _ _).drew hB2;refine hK' _ _ rfl (q01 (Fr.of_below B2 _)) ?_;clear hK' K'
   try simp only[q25,List.take,List.drop]
   repeat(go_big_quiet_step (fail))
   refine wpQuiet_nil (q04 rfl (λK' hK'=>?_));go_wp2_with fail;have B3:Below w2.heap.size w2 (w2.alloc (.cells cs 3)):=by go_grown
   have ks:=Blk.new w2 3 cs;have HD3:=HD.keep B3;refine hK' _ _ rfl (q01 (Fr.of_below (bt B2 B3) _)) ?_;clear hK' K'
   try simp only[List.take,List.drop]
   repeat(go_big_quiet_step (fail))
   refine wpQuiet_nil (q04 rfl (λK' hK'=>?_));have hs3:w2.heap.size < (w2.alloc (.cells cs 3)).heap.size:=by simp
   have hb2s:=B2.size;have B23:=bt B2 B3;have hla:la < w2.heap.size:=by obtain⟨b,f,e,hb,_⟩:=HD.ka.2.2.2.2 HH.out.h0;cases e;exact hb
   clear B2 B3 hB2;generalize w2.alloc (.cells cs 3)=w3 at *;generalize w2.heap.size=sb at *;go_wp2_with fail;have B4:Below w3.heap.size w3 (w3.alloc (.cells (mk0 cf sb ls (.pointer none)) 112)):=by go_grown
   refine hK' _ _ rfl (q01 (Fr.of_below (bt B23 B4) _)) ?_;clear hK' K'
   try simp only[q25,List.take,List.drop]
   repeat(go_big_quiet_step (fail))
   refine wpQuiet_nil ?_;go_wp2_with fail;go_meet
   case rel =>
    refine⟨w3.heap.size,sb,ls,la,lc,lq,rfl,bt B23 B4,Blk.new w3 _ _,by rw[<- HCS.out];exact ks.keep B4,HD3.keep B4,⟨B23.size,hb2s,h1,h2,h3⟩,by omega,by omega⟩
  .simp only[q71,q25,List.take,List.drop,List.cons_append,List.nil_append]
   repeat(go_big_quiet_step (fail))
   refine wpQuiet_nil (q04 rfl (λK' hK'=>?_));go_wp2_with fail;have B2:Below w1.heap.size w1 ((w1.alloc (.cells cs 3)).drew):=by go_grown
   have ks:=(Blk.new w1 3 cs).drew;have hs2:w1.heap.size < ((w1.alloc (.cells cs 3)).drew).heap.size:=by show w1.heap.size < (w1.alloc (.cells cs 3)).heap.size;simp
   refine hK' _ _ rfl (q01 (Fr.of_below B2 _)) ?_;clear hK' K'
   try simp only[q25,List.take,List.drop]
   repeat(go_big_quiet_step (fail))
   refine wpQuiet_nil (q04 rfl (λK' hK'=>?_));generalize (w1.alloc (.cells cs 3)).drew=w2 at *;go_wp2_with fail;go_at_call 56
   refine(HL.out _ B2).mono ?_;rintro _ w3 ⟨ls,la,lc,lq,rfl,HD,h1,h2,h3,hB3⟩;have B3:Below w1.heap.size w1 w3:=bt B2 hB3;have ks3:=ks.keep hB3;refine hK' _ _ rfl (q01 (Fr.of_below B3 _)) ?_;clear hK' K'
   try simp only[List.take,List.drop]
   repeat(go_big_quiet_step (fail))
   refine wpQuiet_nil (q04 rfl (λK' hK'=>?_));go_wp2_with fail;have B4:Below w3.heap.size w3 (w3.alloc (.cells (mk0 cf w1.heap.size ls (.pointer none)) 112)):=by go_grown
   refine hK' _ _ rfl (q01 (Fr.of_below (bt B3 B4) _)) ?_;clear hK' K'
   try simp only[q25,List.take,List.drop]
   repeat(go_big_quiet_step (fail))
   refine wpQuiet_nil ?_;go_wp2_with fail;go_meet
   case rel =>
    have hla:la < w3.heap.size:=by obtain⟨b,f,e,hb,_⟩:=HD.ka.2.2.2.2 HH.out.h0;cases e;exact hb
    have hsz:=B2.size;refine⟨w3.heap.size,w1.heap.size,ls,la,lc,lq,rfl,bt B3 B4,Blk.new w3 _ _,by rw[<- HCS.out];exact ks3.keep B4,HD.keep B4,⟨B3.size,Nat.le_refl _,by omega,by omega,λq hq=>by have:=h3 q hq;omega⟩,hla,by omega⟩
 case rest =>
  obtain⟨y,sb,lb,la,lc,lq,rfl,D⟩:=hcut;have HD:=Lib.hid D;have k1:=HK1.out.keep D.B;have kc:=k1.cell;have lg:=k1.lt;have lk:=D.k.lt;have ly:¬ g1=y:=by have:=D.ge.1;have:=HK1.out.lt;omega
  clear D k1;go_upto_region 2 with fail;refine q77 (λk=>k=y) [(8,0),(1,0),(2,2)] (by kernel_rfl) (by kernel_rfl) ?_;simp only[q25,List.take,List.drop]
  repeat(go_big_quiet_step (fail))
  refine wpQuiet_nil (q04 rfl (λK' hK'=>?_));go_wp2_with fail;go_at_call 57
  refine(qpe HH.out.h8).mono ?_;rintro _ w3 ⟨⟨p,g,r,rfl,PN,p1,p2,p3⟩,hB3⟩;have B3:Below wc.heap.size wc w3:=bt (Below.refl _ _).drew hB3;have p1:wc.heap.size<=p:=p1;have p2:wc.heap.size<=g:=p2;have p3:wc.heap.size<=r:=p3;refine hK' _ _ rfl (q01 (Fr.of_below B3 _)) ?_;clear hK' K'
  try simp only[List.take,List.drop]
  repeat(go_big_quiet_step (fail))
  refine wpQuiet_nil (q04 rfl (λK' hK'=>?_));go_wp2_with fail;have B4:Below w3.heap.size w3 (w3.alloc (.cells #[.int .i64 0,.int .i64 0,.slice cf.pw.levels.A cf.pw.levels.l.length cf.pw.levels.c,.slice cf.pw.naps.A cf.pw.naps.l.length cf.pw.naps.c,.int .i64 cf.pw.sw,.int .i64 cf.pw.idle,.int .i64 cf.pw.change,.int .i64 cf.pw.quant,.int .i64 cf.pw.slow,.int .i64 cf.pw.ppm,.pointer (some ⟨p,0,none⟩),.nilFunc,.int .i64 0] 118)):=by go_grown
  have kg4:=Blk.new w3 118 #[.int .i64 0,.int .i64 0,.slice cf.pw.levels.A cf.pw.levels.l.length cf.pw.levels.c,.slice cf.pw.naps.A cf.pw.naps.l.length cf.pw.naps.c,.int .i64 cf.pw.sw,.int .i64 cf.pw.idle,.int .i64 cf.pw.change,.int .i64 cf.pw.quant,.int .i64 cf.pw.slow,.int .i64 cf.pw.ppm,.pointer (some ⟨p,0,none⟩),.nilFunc,.int .i64 0];have PN4:=PN.keep B4;have hs4:=B3.size;have f4:Fr (λk=>k=y) wc (w3.alloc (.cells #[.int .i64 0,.int .i64 0,.slice cf.pw.levels.A cf.pw.levels.l.length cf.pw.levels.c,.slice cf.pw.naps.A cf.pw.naps.l.length cf.pw.naps.c,.int .i64 cf.pw.sw,.int .i64 cf.pw.idle,.int .i64 cf.pw.change,.int .i64 cf.pw.quant,.int .i64 cf.pw.slow,.int .i64 cf.pw.ppm,.pointer (some ⟨p,0,none⟩),.nilFunc,.int .i64 0] 118)):=Fr.of_below (bt B3 B4) _;have B34:=bt B3 B4;have ky4:=HD.out.k.keep B34;have yf:=ky4.frozen;have yc:=ky4.cell;have yl:=ky4.lt;generalize w3.alloc (.cells #[.int .i64 0,.int .i64 0,.slice cf.pw.levels.A cf.pw.levels.l.length cf.pw.levels.c,.slice cf.pw.naps.A cf.pw.naps.l.length cf.pw.naps.c,.int .i64 cf.pw.sw,.int .i64 cf.pw.idle,.int .i64 cf.pw.change,.int .i64 cf.pw.quant,.int .i64 cf.pw.slow,.int .i64 cf.pw.ppm,.pointer (some ⟨p,0,none⟩),.nilFunc,.int .i64 0] 118)=w4 at *;generalize hgg:w3.heap.size=gg at *;refine hK' _ _ rfl (q01 f4) ?_;clear hK' K'
  try simp only[List.take,List.drop]
  repeat(go_big_quiet_step (fail))
  refine wpQuiet_nil (q9r rfl (λK' hK'=>?_));go_wp2_with fail;refine hK' _ _ (λ_=>False) rfl ?_;clear hK' K'
  try simp only[q25,List.take,List.drop]
  repeat(go_big_quiet_step (fail))
  refine wpQuiet_nil ?_;have f5:Fr (λk=>k=y) w4 (w4.setCell ⟨y,12,none⟩ (.pointer (some ⟨gg,0,none⟩))):=(Fr.refl (λk=>k=y) w4).setCell (p:=⟨y,12,none⟩) (λ_=>rfl) _;have ky5:Blk (w4.setCell ⟨y,12,none⟩ (.pointer (some ⟨gg,0,none⟩))) y 112 (mk0 cf sb lb (.pointer (some ⟨gg,0,none⟩))):=ky4.set_ 12 _;have B5:Below w1.heap.size w1 (w4.setCell ⟨y,12,none⟩ (.pointer (some ⟨gg,0,none⟩))):=(bt HD.out.B B34).setCell (p:=⟨y,12,none⟩) HD.out.ge.1 _;clear yf yc yl ky4 f4 kc;have D:=HD.out;have szc:=D.B.size;have hlac:la < wc.heap.size:=Nat.lt_trans D.ly D.k.lt;have key:=qwk (W:=w) (m:=w1.heap.size) (cf:=cf) HB1.out.size (bt HB1.out B5) HC.out ky5 ((D.s.keep B34).fr f5 (λe=>(D.s.ne D.k (by decide)) e)) ((D.L.keep B34).fr f5 (λe=>(D.L.kb.ne D.k (by decide)) e) (λe=>Nat.ne_of_lt D.ly e) (λq hq e=>by
   obtain⟨i,hi,rfl⟩:=List.getElem_of_mem hq;have h1:=D.L.q i (by rw[<- D.L.ql];exact hi);rw[show atN lq i=lq[i] by simp[atN,List.getElem?_eq_getElem hi]]at h1
   exact h1.ne D.k (by decide) e)) HH.out.h0 (kg4.fr f5 (λe=>by have:=D.k.lt;omega)) (PN4.fr f5 (λe=>by have:=D.k.lt;omega) (λe=>by have:=D.k.lt;omega) (λe=>by have:=D.k.lt;omega))
   ⟨D.ge.1,D.ge.2.1,D.ge.2.2.1,D.ge.2.2.2.1,by omega,by omega,by omega,by omega⟩ D.ge.2.2.2.2 ⟨Nat.ne_of_lt D.ly,by omega,by omega,by omega,by omega,D.ls⟩ (by have:=D.s.lt;omega)
  obtain⟨o5,M5,hd5⟩:=key;have hlt1:=HK1.out.lt;have hlt2:=HK2.out.lt;have kc5:q1t (w4.setCell ⟨y,12,none⟩ (.pointer (some ⟨gg,0,none⟩))) o5 .data g1 33 #[.slice cf.parts.A cf.parts.l.length cf.parts.c,.slice cf.chans.A cf.chans.l.length cf.chans.c,.slice cf.modes.A cf.modes.l.length cf.modes.c,.slice cf.pw.levels.A cf.pw.levels.l.length cf.pw.levels.c,.slice cf.pw.naps.A cf.pw.naps.l.length cf.pw.naps.c,.int .i64 cf.pw.sw,.int .i64 cf.pw.idle,.int .i64 cf.pw.change,.int .i64 cf.pw.quant,.int .i64 cf.pw.slow,.int .i64 cf.pw.ppm,.slice cf.shed.down.A cf.shed.down.l.length cf.shed.down.c,.slice cf.shed.up.A cf.shed.up.l.length cf.shed.up.c]:=⟨HK1.out.keep B5,hd5 g1 (by rw[HG.out];exact Nat.le_refl _) hlt1⟩
  have kd5:q1t (w4.setCell ⟨y,12,none⟩ (.pointer (some ⟨gg,0,none⟩))) o5 .data (g1 + 1) 37 #[.slice sc.progs.A sc.progs.l.length sc.progs.c,.slice sc.frames.A sc.frames.l.length sc.frames.c]:=⟨HK2.out.keep B5,hd5 (g1 + 1) (by rw[HG.out];omega) hlt2⟩
  clear D f5 ky5 B5 hd5 szc hlac hs4 p1 p2 p3 PN PN4 kg4 B34 B3 B4 hB3 HD hgg lk ly hlt1 hlt2 lg;obtain⟨w5,hw5⟩:∃ w5,w4.setCell ⟨y,12,none⟩ (.pointer (some ⟨gg,0,none⟩))=w5:=⟨_,rfl⟩
  rw[hw5]at M5 kc5 kd5 ⊢
  have hy5:(yx0 y sb lb la lc lq gg p g r).y=y:=rfl;generalize yx0 y sb lb la lc lq gg p g r=x5 at *;have c0:w5.cell? ⟨g1,0,none⟩=some (.slice cf.parts.A cf.parts.l.length cf.parts.c):=kc5.1.cell 0;have lg:=kc5.1.lt;clear hw5;go_upto_region 4 with fail;clear c0 lg;go_loopw [34] (λi wr=>∃ (k:Nat) (o':Gh) (x':Yx),i = .int .i64 k/\k<=cf.parts.l.length/\MkR w wr o' cf x' ((List.range k).map (q33 cf sc)) k k/\x'.y=y/\q1t wr o' .data g1 33 #[.slice cf.parts.A cf.parts.l.length cf.parts.c,.slice cf.chans.A cf.chans.l.length cf.chans.c,.slice cf.modes.A cf.modes.l.length cf.modes.c,.slice cf.pw.levels.A cf.pw.levels.l.length cf.pw.levels.c,.slice cf.pw.naps.A cf.pw.naps.l.length cf.pw.naps.c,.int .i64 cf.pw.sw,.int .i64 cf.pw.idle,.int .i64 cf.pw.change,.int .i64 cf.pw.quant,.int .i64 cf.pw.slow,.int .i64 cf.pw.ppm,.slice cf.shed.down.A cf.shed.down.l.length cf.shed.down.c,.slice cf.shed.up.A cf.shed.up.l.length cf.shed.up.c]/\q1t wr o' .data (g1 + 1) 37 #[.slice sc.progs.A sc.progs.l.length sc.progs.c,.slice sc.frames.A sc.frames.l.length sc.frames.c]) (λi _=>cf.parts.l.length - (intOf i).toNat)
  case atStart=>exact⟨0,o5,x5,rfl,Nat.zero_le _,M5,hy5,kc5,kd5⟩
  case round =>
   clear M5 kc5 kd5 hy5;obtain⟨k,o',x',rfl,hkn,M,hy,kc,kd⟩:=hrel;by_cases hk:k < cf.parts.l.length
   .obtain⟨pb,po,hA,hpb,hsc⟩:=(q53.keep HC.out.1 M.H.B.b).1.at_ Pt0 hk;rw[show qcu.sz=11 from rfl]at hsc
    have hw1:wrap64 ((k:Int) + 1)=((k + 1:Nat):Int):=by have:=HH.out.h8;unfold wrap64;omega
    generalize hz:atD Pt0 cf.parts.l k=z at *;have s0:wr.cell? ⟨pb,po + k * 11,none⟩=some (.slice z.regs.A z.regs.l.length z.regs.c):=hsc 0 _ rfl;have s1:wr.cell? ⟨pb,po + k * 11 + 1,none⟩=some (.slice z.procs.A z.procs.l.length z.procs.c):=hsc 1 _ rfl;have s2:wr.cell? ⟨pb,po + k * 11 + 2,none⟩=some (.slice z.ports.A z.ports.l.length z.ports.c):=hsc 2 _ rfl;have s3:wr.cell? ⟨pb,po + k * 11 + 3,none⟩=some (.slice z.sems.A z.sems.l.length z.sems.c):=hsc 3 _ rfl;have s4:wr.cell? ⟨pb,po + k * 11 + 4,none⟩=some (.int .i64 z.flags):=hsc 4 _ rfl;have s5:wr.cell? ⟨pb,po + k * 11 + 5,none⟩=some (.slice z.pools.A z.pools.l.length z.pools.c):=hsc 5 _ rfl;have s6:wr.cell? ⟨pb,po + k * 11 + 6,none⟩=some (.slice z.slates.A z.slates.l.length z.slates.c):=hsc 6 _ rfl;have s7:wr.cell? ⟨pb,po + k * 11 + 7,none⟩=some (.int .i64 z.cap):=hsc 7 _ rfl;have s8:wr.cell? ⟨pb,po + k * 11 + 8,none⟩=some (.int .i64 z.bud):=hsc 8 _ rfl;have s9:wr.cell? ⟨pb,po + k * 11 + 9,none⟩=some (.int .i64 z.lad):=hsc 9 _ rfl;have s10:wr.cell? ⟨pb,po + k * 11 + 10,none⟩=some (.slice z.acts.A z.acts.l.length z.acts.c):=hsc 10 _ rfl;rw[hA];have HPA:=Lib.hid hA;have HZ:=Lib.hid hz;clear hsc hA hz;go_upto_region 6 with fail;have Ba:Below wr.heap.size wr (wr.alloc (.cells #[.slice z.regs.A z.regs.l.length z.regs.c,.slice z.procs.A z.procs.l.length z.procs.c,.slice z.ports.A z.ports.l.length z.ports.c,.slice z.sems.A z.sems.l.length z.sems.c,.int .i64 z.flags,.slice z.pools.A z.pools.l.length z.pools.c,.slice z.slates.A z.slates.l.length z.slates.c,.int .i64 z.cap,.int .i64 z.bud,.int .i64 z.lad,.slice z.acts.A z.acts.l.length z.acts.c] 51)):=by go_grown
    have kt:=Blk.new wr 51 #[.slice z.regs.A z.regs.l.length z.regs.c,.slice z.procs.A z.procs.l.length z.procs.c,.slice z.ports.A z.ports.l.length z.ports.c,.slice z.sems.A z.sems.l.length z.sems.c,.int .i64 z.flags,.slice z.pools.A z.pools.l.length z.pools.c,.slice z.slates.A z.slates.l.length z.slates.c,.int .i64 z.cap,.int .i64 z.bud,.int .i64 z.lad,.slice z.acts.A z.acts.l.length z.acts.c];generalize hwa:wr.alloc (.cells #[.slice z.regs.A z.regs.l.length z.regs.c,.slice z.procs.A z.procs.l.length z.procs.c,.slice z.ports.A z.ports.l.length z.ports.c,.slice z.sems.A z.sems.l.length z.sems.c,.int .i64 z.flags,.slice z.pools.A z.pools.l.length z.pools.c,.slice z.slates.A z.slates.l.length z.slates.c,.int .i64 z.cap,.int .i64 z.bud,.int .i64 z.lad,.slice z.acts.A z.acts.l.length z.acts.c] 51)=wa at *;generalize hgt:wr.heap.size=gt at *;clear s0 s1 s2 s3 s4 s5 s6 s7 s8 s9 s10 hwa hpb;have HM:=Lib.hid M;have HK:=Lib.hid hk;have HKC:=Lib.hid kc;have HKD:=Lib.hid kd;have ktc:=kt.cell;have ktl:=kt.lt;have d0:wa.cell? ⟨g1 + 1,0,none⟩=some (.slice sc.progs.A sc.progs.l.length sc.progs.c):=by rw[<- hgt]at Ba;exact(kd.1.keep Ba).cell 0
    have d1:wa.cell? ⟨g1 + 1,1,none⟩=some (.slice sc.frames.A sc.frames.l.length sc.frames.c):=by rw[<- hgt]at Ba;exact(kd.1.keep Ba).cell 1
    have ld:g1 + 1 < wa.heap.size:=by rw[<- hgt]at Ba;exact(kd.1.keep Ba).lt
    clear M kc kd hkn;refine q77 (λ_=>False) [(4,0),(0,2)] (by kernel_rfl) (by kernel_rfl) ?_;simp only[q25,List.take,List.drop]
    repeat(go_big_quiet_step (fail))
    refine wpQuiet_nil (q04 rfl (λK' hK'=>?_));go_wp2_with fail;go_at_call 59
    have Bw:Below w.heap.size w wa:=by rw[<- hgt]at Ba;exact bt HM.out.H.B.b Ba
    refine(qoc (w:=wa.drew) (q73.keep HS.out (bt Bw (Below.refl _ _).drew)) k).mono ?_;rintro _ w7 ⟨rfl,hB7⟩;have B7:Below wa.heap.size wa w7:=bt (Below.refl _ _).drew hB7;refine hK' _ _ rfl (q01 (Fr.of_below B7 _)) ?_;clear hK' K'
    try simp only[q25,List.take,List.drop]
    repeat(go_big_quiet_step (fail))
    refine wpQuiet_nil (q9r rfl (λK' hK'=>?_));go_wp2_with fail;go_at_call 58
    have B07:Below wr.heap.size wr w7:=by rw[<- hgt]at Ba;exact bt Ba B7
    obtain⟨m7,M7⟩:=HM.out.laid B07;have HM7:=Lib.hid M7;have HP:Hid (qcu.ok w z):=by have:=HC.out.1.2 _ (q0h (d:=Pt0) HK.out);rw[HZ.out]at this;exact this
    have hmem:z ∈ cf.parts.l:=by rw[<- HZ.out];exact q0h (d:=Pt0) HK.out
    have hpr:qkn.ok w (q2c sc k):=by
     unfold q2c;by_cases q:k < sc.progs.l.length
     .exact HS.out.1.2 _ (q0h (d:=Pr0) q)
     .rw[qby (by omega)];exact⟨SlG.nil w _ _,λx hx=>absurd hx List.not_mem_nil⟩
    refine(qs7 (W:=w) (w:=w7) (o:=lay wr o' .data) (pt:=k) (part:=(k:Int)) HP.out hpr M7.H.B.b (HH.out.pl z hmem) (HH.out.po z hmem) (HH.out.st k) (λj hj e=>by
     have:=M7.H.pq j hj k e;rw[List.length_map,List.length_range]at this
     omega)).mono ?_
    rintro _ w8 ⟨cb,pp,o8,rfl,m8,C8⟩;refine hK' _ _ (λ_=>False) rfl ?_;clear hK' K'
    try simp only[q25,List.take,List.drop]
    repeat(go_big_quiet_step (fail))
    refine wpQuiet_nil ?_;obtain⟨o9,m9,C9,hn9⟩:=qw6 m8 C8;obtain⟨xx,hxp,M9,R9⟩:=HM7.out.cell (by rw[List.length_map,List.length_range]) m9 C9 hn9;have kc9:=((HKC.out.go m7 id).go m9 id)
    have kd9:=((HKD.out.go m7 id).go m9 id)
    rw[show(List.range k).map (q33 cf sc) ++ [q8b z k (prL (q2c sc k))]=(List.range (k + 1)).map (q33 cf sc) by rw[List.range_succ,List.map_append];show _=_ ++ [q33 cf sc k];unfold q33;rw[HZ.out]]at M9
    have hy9:({ x' with c:=λq=>if q=k then cb else x'.c q,x:=λq=>if q=k then xx else x'.x q } : Yx).y=y:=hy;have hc9:({ x' with c:=λq=>if q=k then cb else x'.c q,x:=λq=>if q=k then xx else x'.x q } : Yx).c k=cb:=if_pos rfl;have hx9:(({ x' with c:=λq=>if q=k then cb else x'.c q,x:=λq=>if q=k then xx else x'.x q } : Yx).x k).p=pp:=by show(if k=k then xx else x'.x k).p=pp;rw[if_pos rfl];exact hxp
    generalize ({ x' with c:=λq=>if q=k then cb else x'.c q,x:=λq=>if q=k then xx else x'.x q } : Yx)=x9 at *;have HM9:=Lib.hid M9;have HR9:=Lib.hid R9;have HXP:=Lib.hid hxp;have HKC9:=Lib.hid kc9;have HKD9:=Lib.hid kd9;have HX9:=Lib.hid (And.intro hy9 (And.intro hc9 hx9));have own:=M9.ca.1;have c26:w8.cell? ⟨y,26,none⟩=some (.slice x9.cA k x9.cc):=by have:=M9.k.1.cell 26;rw[hy9]at this;exact this
    have ly:y < w8.heap.size:=by have:=M9.k.1.lt;rw[hy9]at this;exact this
    have h8:=HH.out.h8;have hk8:k<=100:=by have:=HK.out;omega
    clear m7 M7 m8 C8 m9 C9 hn9 M9 R9 kc9 kd9 hy9 hc9 hx9 HM7 HM HKC HKD hxp hy hB7 B7 B07 Bw Ba d0 d1 ld ktc ktl kt hmem hpr HP;go_upto_region 8 with (at_builtin;refine q2k qwn w8 (by rfl) _ _ (by rfl) (by rfl) own #[.pointer (some ⟨cb,0,none⟩)] rfl (by simp[Value.oneCell']) (by rfl) (by omega) ?_;intro A' c' w9 own9 hf9 hat9;have k9:=HM9.out.k.1.fr hf9 (HM9.out.ca.1.ne HM9.out.k.1 (by decide));rw[HX9.out.1]at k9;have kf9:=k9.frozen;have kc9:=k9.cell;have kl9:=k9.lt)
    obtain⟨o10,m10,M10⟩:=HM9.out.pushC (A':=A') (c':=c') (w5:=w9) (by rw[HX9.out.2.1];exact own9) hf9 hat9;have R10:=HR9.out.go m10 (by rintro _ (rfl | rfl) <;> simp[Lb.part]) (by simp);have hx10:({ x9 with cA:=A',cc:=c' } : Yx).y=y/\(({ x9 with cA:=A',cc:=c' } : Yx).x k).p=pp:=⟨HX9.out.1,HX9.out.2.2⟩
    generalize ({ x9 with cA:=A',cc:=c' } : Yx)=x10 at M10 hx10;have HX10:=Lib.hid hx10;rw[HX9.out.1]at m10 M10 R10
    have HKC10:=Lib.hid (HKC9.out.go m10 (by simp));have HKD10:=Lib.hid (HKD9.out.go m10 (by simp));clear kf9 kc9 kl9 k9 own9 hf9 hat9 m10 own c26 hx10 HM9 HR9 HKC9 HKD9 HX9;generalize w9.setCell ⟨y,26,none⟩ (.slice A' (k + 1) c')=w10 at *;have HM10:=Lib.hid M10;have HR10:=Lib.hid R10;have c27:w10.cell? ⟨y,27,none⟩=some (.slice x10.pA k x10.pc):=by have:=M10.k.1.cell 27;rw[HX10.out.1]at this;exact this
    have ly:y < w10.heap.size:=by have:=M10.k.1.lt;rw[HX10.out.1]at this;exact this
    have hny:¬ q02 x10.pA y:=λh=>by have:=M10.pa.1.ne M10.k.1 (by decide);rw[HX10.out.1]at this;exact this h
    clear M10 R10;refine q77 (q02 x10.pA) [(6,0),(0,0),(0,0),(2,2)] (by kernel_rfl) (by kernel_rfl) ?_;simp only[q25,List.take,List.drop]
    repeat(go_big_quiet_step (fail))
    refine wpQuiet_nil (q04 rfl (λK' hK'=>?_));go_wp2_with fail;go_at_call 60
    refine(qkj (HR10.out.blw (Below.refl _ _).drew)).mono ?_;rintro _ _ ⟨rfl,rfl⟩;refine hK' _ _ rfl (q01 (Fr.of_below (Below.refl _ _).drew _)) ?_;clear hK' K'
    try simp only[q25,List.take,List.drop]
    repeat(go_big_quiet_step (fail))
    refine wpQuiet_nil (q04 rfl (λK' hK'=>?_));go_wp2_with fail;have B11:Below w10.heap.size w10 ((w10.alloc (.cells #[.pointer (some ⟨xx.p,0,none⟩)] 165)).drew):=((Below.refl _ w10).alloc (Nat.le_refl _) _).drew;have hsl:Sl ((w10.alloc (.cells #[.pointer (some ⟨xx.p,0,none⟩)] 165)).drew) (some ⟨w10.heap.size,0,none⟩) 1 1 1 [.pointer (some ⟨xx.p,0,none⟩)]:=((Own.of_blk (Blk.new w10 165 #[.pointer (some ⟨xx.p,0,none⟩)]) rfl (by show 1<=maxLen;decide)).keep (Below.refl _ _).drew).sl;refine hK' _ _ rfl (q01 (Fr.of_below B11 _)) ?_;clear hK' K'
    try simp only[q25,List.take,List.drop]
    repeat(go_big_quiet_step (fail))
    obtain⟨m11,M11⟩:=HM10.out.laid B11;have HM11:=Lib.hid M11;have HM1:=Lib.hid m11;clear M11 m11;refine wpQuiet_nil (q04 rfl (λK' hK'=>?_));refine qas qwo _ _ _ (by rfl) (by rfl) HM11.out.pa.1 (by rfl) hsl (by simp[Value.oneCell']) (Nat.le_trans (Nat.add_le_add_right hk8 1) (by decide)) ?_;intro A12 k12 w12 own12 hf12 hat12;refine hK' _ _ rfl (q01 ((Fr.of_below B11 _).trans hf12)) ?_;clear hK' K';have ky:=HM11.out.k.1.fr hf12 (by rw[HX10.out.1];exact hny);rw[HX10.out.1]at ky
    have cy:w12.cell? ⟨y,27,none⟩=some (.slice x10.pA k x10.pc):=ky.cell 27;have fy:=ky.frozen;have ly2:=ky.lt;simp only[Act.put,List.setIfInBounds_toArray,List.set_cons_succ,List.set_cons_zero,List.take,List.drop]
    repeat(go_big_quiet_step (fail))
    refine wpQuiet_nil (q9r rfl (λK' hK'=>?_));go_wp2_with fail;refine hK' _ _ (λ_=>False) rfl ?_;clear hK' K'
    try simp only[q25]
    repeat(go_big_quiet_step (fail))
    refine wpQuiet_nil ?_;obtain⟨o13,m13,M13⟩:=HM11.out.pushP (A':=A12) (c':=k12) (w5:=w12) (by rw[HX10.out.2,<- HXP.out];exact own12) hf12 hat12;have hy13:({ x10 with pA:=A12,pc:=k12 } : Yx).y=y:=HX10.out.1;generalize ({ x10 with pA:=A12,pc:=k12 } : Yx)=x13 at M13 hy13;rw[HX10.out.1]at m13 M13
    have kc13:=(HKC10.out.go HM1.out id).go m13 (by simp);have kd13:=(HKD10.out.go HM1.out id).go m13 (by simp);have HF:=Lib.hid (And.intro M13 (And.intro hy13 (And.intro kc13 kd13)));clear M13 hy13 kc13 kd13 m13 own12 hf12 hat12 cy fy ly2 ky hsl B11 hny ly c27;generalize w12.setCell ⟨y,27,none⟩ (.slice A12 (k + 1) k12)=w13 at HF ⊢;go_wp2_with fail;exact⟨⟨k + 1,o13,x13,by go_num,HK.out,HF.out.1,HF.out.2.1,by rw[<- HPA.out];exact HF.out.2.2.1,HF.out.2.2.2⟩,by have:=HK.out;simp[intOf];omega⟩
   .obtain rfl:k=cf.parts.l.length:=by omega
    obtain⟨o9,x9,h9,S9⟩:=M.done HH.out.nl;rw[hy]at h9
    have HS9:=Lib.hid (And.intro h9 S9);clear M kc kd h9 S9 hy;go_wp2_with fail;go_returns;exact⟨o9,x9,by rw[HS9.out.1];rfl,HS9.out.2⟩
end Go.Proofs.YtncfcbohiodnnaaGreat
