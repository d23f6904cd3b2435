/- Parts of this seat's claims. -/
import Derived.Test.YtncfcbohiodnnaaGreatW9
import Derived.Conc.LoneCalls
import Derived.Conc.LoneSelect
set_option maxRecDepth 100000
set_option maxHeartbeats 6400000
namespace Go.Proofs.YtncfcbohiodnnaaGreat
open Go.RowKit
variable{w w' W wa wo W':World} {c n pt r B j b m mb q base cap id B0:Nat} {A:Option Addr} {a code what:Int} {cs:Array Value}
section
open Go.RowKit Go.Conc
theorem Fr.chan{S:Nat->Prop} (h:Fr S w w') {c:Nat} (hc:c < w.heap.size->S c) (cap:Nat) (buf:Array Value) (cl:Bool) (s r:Nat) (tm:Bool):Fr S w (w'.setChan c cap buf cl s r tm) :=
 ⟨h.os,h.tape,h.output,by simp[World.setChan];exact h.size,λk hk hn=>by simp only[World.setChan];rw[Array.getElem?_setIfInBounds_ne (by rintro rfl;exact hn (hc hk))];exact h.block k hk hn⟩
theorem qsh{g ch:Nat} {buf:Array Value} {s:Nat} {ci wi:Int} (k:Blk w g 437 #[.chan (some ch)]) (hc:w.heap[ch]?=some (.chan 4096 buf false s r false)) (hn:buf.size < 4096) :
  cP 197 #[pp g,.agg #[ii ci,ii wi,.slice A n c]] w λe w'=>e = .returned (.bool true)/\w'.heap[ch]?=some (.chan 4096 (buf.push (.agg #[ii ci,ii wi,.slice A n c])) false (s + 1) r false)/\Fr (λk=>k=ch) w w':=by
 refine calls_of_loneTo λcs=>?_;have e:Frame.enter Tryz.prog 197 #[pp g,.agg #[ii ci,ii wi,.slice A n c]] .normal=(base 197).at ⟨#[pp g,.agg #[ii ci,ii wi,.slice A n c],undef,undef,undef,undef,undef,undef,undef,undef,undef,undef,undef,undef,undef],[]⟩ [.code (Tryz.f197.body.getD .skip)]:=by
  simp[Frame.enter,Frame.at,Tryz.func197,base,Tryz.f197]
 rw[e];have kw:=k.alloc (.cells #[ii ci,ii wi,.slice A n c] 122);have kb:=Blk.new w 122 #[ii ci,ii wi,.slice A n c];have c0:=kw.cell 0;have b0:=kb.cell 0;have b1:=kb.cell 1;have b2:=kb.cell 2;have h0:(w.alloc (.cells #[ii ci,ii wi,.slice A n c] 122)).heap[ch]?=some (.chan 4096 buf false s r false):=by rw[heap_alloc_old w _ (by have:=(Array.getElem?_eq_some_iff.1 hc).1;exact this)];exact hc
 refine LoneTo.goes (n:=60) ?_;simp only[Tryz.f197,Option.getD_some]
 repeat(first | s_c stepG_seq | s_reg | s_c stepG_region_end | s_c stepG_skip | s_op)
 s_call Tryz.func266 zk Tryz.f266
 repeat(first | s_c stepG_seq | s_reg | s_c stepG_region_end | s_c stepG_skip | s_op)
 s_c stepG_ret'
 s_leave1 Tryz.func266
 repeat(first | s_c stepG_seq | s_reg | s_c stepG_region_end | s_c stepG_skip | s_op)
 s_cond false
 repeat(first | s_c stepG_seq | s_reg | s_c stepG_region_end | s_c stepG_skip | s_op)
 s_stop
 refine LoneTo.step (step_lone_select_send_room (c:=ch) (cap:=4096) (buf:=buf) (s:=s) (r:=r) (tm:=false) (v := .agg #[ii ci,ii wi,.slice A n c]) (z' := .agg #[ii 0,ii 0,.slice none 0 0]) (stepG_comm (cases:=#[scase ch (.agg #[ii ci,ii wi,.slice A n c]) (.agg #[ii 0,ii 0,.slice none 0 0])]) (blocking:=false) (shape := .select) (w':=w.alloc (.cells #[ii ci,ii wi,.slice A n c] 122)) rfl rfl zd (by simp[go_sem,execOp,scase,Act.eval])) h0 hn) ?_;rw[Frame.finish_at];walk_nrm
 refine LoneTo.goes (n:=60) ?_
 repeat(first | s_c stepG_seq | s_reg | s_c stepG_region_end | s_c stepG_skip | s_op)
 s_c stepG_block
 s_cond true
 repeat(first | s_c stepG_seq | s_reg | s_c stepG_region_end | s_c stepG_skip | s_op)
 s_c stepG_ret'
 s_stop
 refine LoneTo.done ⟨.returned (.bool true),_,rfl,⟨rfl,heap_setChan _ _ _ _ _ _ _ _ (by have:=(Array.getElem?_eq_some_iff.1 h0).1;exact this),?_⟩,rfl,rfl,rfl,rfl,_,Tryz.func197,by simp[results,Tryz.f197,Frame.at]⟩;exact((Fr.refl (λk=>k=ch) w).alloc _).chan (λ_=>rfl) _ _ _ _ _ _
theorem qfv{g ch:Nat} {buf:Array Value} {s:Nat} {ci wi:Int} (k:Blk w g 437 #[.chan (some ch)]) (hc:w.heap[ch]?=some (.chan 4096 buf false s r false)) (hn:0 < buf.size) (hv:buf.getD 0 undef = .agg #[ii ci,ii wi,.slice A n c]) :
  cP 198 #[pp g] w λe w'=>e = .returned (.tuple #[.agg #[ii ci,ii wi,.slice A n c],.bool true])/\w'.heap[ch]?=some (.chan 4096 (buf.extract 1 buf.size) false s (r + 1) false)/\Fr (λk=>k=ch) w w':=by
 refine calls_of_loneTo λcs=>?_;have e:Frame.enter Tryz.prog 198 #[pp g] .normal=(base 198).at ⟨#[pp g,undef,undef,undef,undef,undef,undef,undef,undef,undef,undef,undef,undef,undef,undef,undef,undef,undef,undef],[]⟩ [.code (Tryz.f198.body.getD .skip)]:=by
  simp[Frame.enter,Frame.at,Tryz.func198,base,Tryz.f198]
 rw[e];have kw:=(k.alloc (.cells #[ii 0,ii 0,.slice none 0 0] 122)).alloc (.cells #[ii 0,ii 0,.slice none 0 0] 122);have c0:=kw.cell 0;have h2:=(Array.getElem?_eq_some_iff.1 hc).1;have h0:((w.alloc (.cells #[ii 0,ii 0,.slice none 0 0] 122)).alloc (.cells #[ii 0,ii 0,.slice none 0 0] 122)).heap[ch]?=some (.chan 4096 buf false s r false):=by rw[heap_alloc_old _ _ (by simp;omega),heap_alloc_old w _ h2];exact hc
 have b0:=(Blk.new w 122 #[ii 0,ii 0,.slice none 0 0]).alloc (.cells #[ii 0,ii 0,.slice none 0 0] 122);have f0:Fr (λk=>k=ch) w ((w.alloc (.cells #[ii 0,ii 0,.slice none 0 0] 122)).alloc (.cells #[ii 0,ii 0,.slice none 0 0] 122)):=fO zv _;refine LoneTo.goes (n:=60) ?_;simp only[Tryz.f198,Option.getD_some]
 repeat(first | s_c stepG_seq | s_reg | s_c stepG_region_end | s_c stepG_skip | s_op)
 s_call Tryz.func266 zk Tryz.f266
 repeat(first | s_c stepG_seq | s_reg | s_c stepG_region_end | s_c stepG_skip | s_op)
 s_c stepG_ret'
 s_leave1 Tryz.func266
 repeat(first | s_c stepG_seq | s_reg | s_c stepG_region_end | s_c stepG_skip | s_op)
 s_cond false
 repeat(first | s_c stepG_seq | s_reg | s_c stepG_region_end | s_c stepG_skip | s_op)
 s_stop
 refine LoneTo.step (step_lone_select_recv_buf (c:=ch) (z := .agg #[ii 0,ii 0,.slice none 0 0]) (cap:=4096) (buf:=buf) (closed:=false) (s:=s) (r:=r) (tm:=false) (stepG_comm (cases:=#[rcase ch (.agg #[ii 0,ii 0,.slice none 0 0])]) (blocking:=false) (shape := .select) (w':=(w.alloc (.cells #[ii 0,ii 0,.slice none 0 0] 122)).alloc (.cells #[ii 0,ii 0,.slice none 0 0] 122)) rfl rfl zd (by simp[go_sem,execOp,rcase,Act.eval])) h0 hn) ?_;rw[Frame.finish_at,hv];walk_nrm
 have f1:=f0.chan (c:=ch) (λ_=>rfl) 4096 (buf.extract 1 buf.size) false s (r + 1) false;have h1:=heap_setChan _ ch 4096 (buf.extract 1 buf.size) false s (r + 1) false (Array.getElem?_eq_some_iff.1 h0).1;have b1:=b0.fr ((Fr.refl (λk=>k=ch) _).chan (c:=ch) (λ_=>rfl) 4096 (buf.extract 1 buf.size) false s (r + 1) false) zo;generalize ((w.alloc (.cells #[ii 0,ii 0,.slice none 0 0] 122)).alloc (.cells #[ii 0,ii 0,.slice none 0 0] 122)).setChan ch 4096 (buf.extract 1 buf.size) false s (r + 1) false=w2 at *;have z0:=b1.cell 0;have z1:=b1.cell 1;have z2:=b1.cell 2;have zf:=b1.frozen;have zl:=b1.lt;have B1:=zhd b1;clear b1 b0 f0 h0 kw c0 e;refine LoneTo.goes (n:=60) ?_
 repeat(first | s_c stepG_seq | s_reg | s_c stepG_region_end | s_c stepG_skip | s_op)
 s_c stepG_block
 s_cond true
 repeat(first | s_c stepG_seq | s_reg | s_c stepG_region_end | s_c stepG_skip | s_op)
 s_c stepG_ret'
 s_stop
 have F:=((((Fr.refl (λk=>k=w.heap.size) w2).setCell (p:=⟨w.heap.size,0,none⟩) (λ_=>rfl) (ii ci)).setCell (p:=⟨w.heap.size,1,none⟩) (λ_=>rfl) (ii wi)).setCell (p:=⟨w.heap.size,2,none⟩) (λ_=>rfl) (.slice A n c)).alloc (.cells #[ii ci,ii wi,.slice A n c] 122);have kF:=(((B1.out.set_ 0 (ii ci)).set_ 1 (ii wi)).set_ 2 (.slice A n c)).alloc (.cells #[ii ci,ii wi,.slice A n c] 122);generalize (((w2.setCell ⟨w.heap.size,0,none⟩ (ii ci)).setCell ⟨w.heap.size,1,none⟩ (ii wi)).setCell ⟨w.heap.size,2,none⟩ (.slice A n c)).alloc (.cells #[ii ci,ii wi,.slice A n c] 122)=w9 at F kF ⊢;have y0:=kF.cell 0;have y1:=kF.cell 1;have y2:=kF.cell 2;refine LoneTo.done ⟨.returned (.tuple #[.agg #[ii ci,ii wi,.slice A n c],.bool true]),_,rfl,⟨rfl,(F.block ch (Array.getElem?_eq_some_iff.1 h1).1 zo).trans h1,f1.trans' F (λb hb h=>by omega)⟩,rfl,rfl,rfl,rfl,_,Tryz.func198,by simp[results,Tryz.f198,Frame.at,go_sem,y0,y1,y2]⟩
theorem qc8{g ch:Nat} {s:Nat} (k:Blk w g 437 #[.chan (some ch)]) (hc:w.heap[ch]?=some (.chan 4096 #[] false s r false)) :
  cP 198 #[pp g] w λe w'=>e = .returned (.tuple #[.agg #[ii 0,ii 0,.slice none 0 0],.bool false])/\bW w w':=by
 refine calls_of_loneTo λcs=>?_;have e:Frame.enter Tryz.prog 198 #[pp g] .normal=(base 198).at ⟨#[pp g,undef,undef,undef,undef,undef,undef,undef,undef,undef,undef,undef,undef,undef,undef,undef,undef,undef,undef],[]⟩ [.code (Tryz.f198.body.getD .skip)]:=by
  simp[Frame.enter,Frame.at,Tryz.func198,base,Tryz.f198]
 rw[e];have kw:=(k.alloc (.cells #[ii 0,ii 0,.slice none 0 0] 122)).alloc (.cells #[ii 0,ii 0,.slice none 0 0] 122);have c0:=kw.cell 0;have h1:=(Array.getElem?_eq_some_iff.1 hc).1;have h0:((w.alloc (.cells #[ii 0,ii 0,.slice none 0 0] 122)).alloc (.cells #[ii 0,ii 0,.slice none 0 0] 122)).heap[ch]?=some (.chan 4096 #[] false s r false):=by rw[heap_alloc_old _ _ (by simp;omega),heap_alloc_old w _ h1];exact hc
 have b0:=(Blk.new w 122 #[ii 0,ii 0,.slice none 0 0]).alloc (.cells #[ii 0,ii 0,.slice none 0 0] 122);refine LoneTo.goes (n:=60) ?_;simp only[Tryz.f198,Option.getD_some]
 repeat(first | s_c stepG_seq | s_reg | s_c stepG_region_end | s_c stepG_skip | s_op)
 s_call Tryz.func266 zk Tryz.f266
 repeat(first | s_c stepG_seq | s_reg | s_c stepG_region_end | s_c stepG_skip | s_op)
 s_c stepG_ret'
 s_leave1 Tryz.func266
 repeat(first | s_c stepG_seq | s_reg | s_c stepG_region_end | s_c stepG_skip | s_op)
 s_cond false
 repeat(first | s_c stepG_seq | s_reg | s_c stepG_region_end | s_c stepG_skip | s_op)
 s_stop
 refine LoneTo.step (step_lone_select_default (c:=ch) (z := .agg #[ii 0,ii 0,.slice none 0 0]) (cap:=4096) (s:=s) (r:=r) (tm:=false) (stepG_comm (cases:=#[rcase ch (.agg #[ii 0,ii 0,.slice none 0 0])]) (blocking:=false) (shape := .select) (w':=(w.alloc (.cells #[ii 0,ii 0,.slice none 0 0] 122)).alloc (.cells #[ii 0,ii 0,.slice none 0 0] 122)) rfl rfl zd (by simp[go_sem,execOp,rcase,Act.eval])) h0) ?_;rw[Frame.finish_at];walk_nrm
 have b4:=Blk.new (w.alloc (.cells #[ii 0,ii 0,.slice none 0 0] 122)) 122 #[ii 0,ii 0,.slice none 0 0];have f0:bW w ((w.alloc (.cells #[ii 0,ii 0,.slice none 0 0] 122)).alloc (.cells #[ii 0,ii 0,.slice none 0 0] 122)):=zv;rw[World.size_alloc]at b4
 clear h0 kw c0 e;generalize (w.alloc (.cells #[ii 0,ii 0,.slice none 0 0] 122)).alloc (.cells #[ii 0,ii 0,.slice none 0 0] 122)=w2 at *;have z0:=b0.cell 0;have z1:=b0.cell 1;have z2:=b0.cell 2;have zf:=b0.frozen;have zl:=b0.lt;have x0:=b4.cell 0;have x1:=b4.cell 1;have x2:=b4.cell 2;have B1:=zhd b0;clear b0 b4;refine LoneTo.goes (n:=60) ?_
 repeat(first | s_c stepG_seq | s_reg | s_c stepG_region_end | s_c stepG_skip | s_op)
 s_c stepG_block
 s_cond false
 repeat(first | s_c stepG_seq | s_reg | s_c stepG_region_end | s_c stepG_skip | s_op)
 s_c stepG_ret'
 s_stop
 have kF:=((B1.out.set_ 0 (ii 0)).set_ 1 (ii 0)).set_ 2 (.slice none 0 0);have F:=((f0.setCell (p:=⟨w.heap.size,0,none⟩) nL (ii 0)).setCell (p:=⟨w.heap.size,1,none⟩) nL (ii 0)).setCell (p:=⟨w.heap.size,2,none⟩) nL (.slice none 0 0);generalize ((w2.setCell ⟨w.heap.size,0,none⟩ (ii 0)).setCell ⟨w.heap.size,1,none⟩ (ii 0)).setCell ⟨w.heap.size,2,none⟩ (.slice none 0 0)=w9 at F kF ⊢;have y0:=kF.cell 0;have y1:=kF.cell 1;have y2:=kF.cell 2;refine LoneTo.done ⟨.returned (.tuple #[.agg #[ii 0,ii 0,.slice none 0 0],.bool false]),_,rfl,⟨rfl,F⟩,rfl,rfl,rfl,rfl,_,Tryz.func198,by simp[results,Tryz.f198,Frame.at,go_sem,y0,y1,y2]⟩
theorem qwb(w:World):(Instr.makeChan 435 (ii 4096)).run Tryz.prog w = .ok (.chan (some w.heap.size)) (w.alloc (.chan 4096 #[] false 0 0 false)):=by
 have h:(Tryz.prog.info? 122).map (·.bytes)=some 40:=zk;obtain⟨i,hi,hb⟩:=Option.map_eq_some_iff.1 h;simpa using run_makeChan (P:=Tryz.prog) (w:=w) (show Tryz.prog.underlying 435=some (.chan .both 122) by kernel_rfl) hi .i64 4096 zo (by rw[hb];omega)
theorem qsi:cP 194 #[ii 4096] w λe w'=>e = .returned (pp (w.heap.size + 1))/\w'=(w.alloc (.chan 4096 #[] false 0 0 false)).alloc (.cells #[.chan (some w.heap.size)] 437):=by
 have hmc:=qwb;refine inC ?_;go_in;go_wp2_with fail;go_returns;exact⟨rfl,rfl⟩
end
end Go.Proofs.YtncfcbohiodnnaaGreat
