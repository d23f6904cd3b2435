/- The document's May: Top, Sum, MulDiv of small numbers, Need, Fits: they return something. -/
import Derived.Test.YtiglabknaldinaaMayA
namespace Go.Proofs.Ytiglabknaldinaa
open Go.RowKit
def TupP (w : World) (e : Ending) (w' : World) : Prop := ∃ n z : Int, e = .returned (.tuple #[.int .i64 n, .int .i64 z]) ∧ Below w.heap.size w w'
theorem TupP.mk {w w' : World} {e : Ending} (n z : Int) (h1 : e = .returned (.tuple #[.int .i64 n, .int .i64 z])) (h2 : Below w.heap.size w w') : TupP w e w' := ⟨n, z, h1, h2⟩
def MdP (w : World) (e : Ending) (w' : World) : Prop := ∃ n z : Int, e = .returned (.tuple #[.int .i64 n, .int .i64 z]) ∧ i64 n ∧ Below w.heap.size w w'
theorem MdP.mk {w w' : World} {e : Ending} (n z : Int) (h1 : e = .returned (.tuple #[.int .i64 n, .int .i64 z])) (h3 : i64 n) (h2 : Below w.heap.size w w') : MdP w e w' := ⟨n, z, h1, h3, h2⟩
theorem i64_wrap (n : Int) : i64 (wrap64 n) := by unfold i64 wrap64; omega
set_option maxRecDepth 100000 in
set_option maxHeartbeats 3200000 in
theorem muldiv_any {w : World} {a c : Int} (ha : 1 ≤ a) (ha2 : a ≤ 1000000000) (hc : 1 ≤ c) (hc2 : c ≤ 9223372036854775807) :
    Calls Try.prog 40 #[.int .i64 a, .int .i64 1000, .int .i64 c, .bool true] w (MdP w) := by
  have hd0 : 0 ≤ a * 1000 / c := Int.ediv_nonneg (by omega) (by omega)
  have hd1 : a * 1000 / c ≤ a * 1000 := Int.ediv_le_self _ (by omega)
  have HD : Hid (i64 (a * 1000 / c)) := by unfold Hid i64; omega
  clear hd0 hd1
  have t1 : decide (a < 0) = false := by simp; omega
  have t2 : decide (c < 1) = false := by simp; omega
  have t3 : (a == 0) = false := by simp; omega
  have t4 : 1000 ≤ 9223372036854775807 / a := Int.le_ediv_of_mul_le (by omega) (by omega)
  have hm : IntKind.i64.wrap (a * 1000) = a * 1000 := IntWalk.i64_in _ (by omega)
  by_cases q : 0 < a * 1000 % c
  · go_enter Try.func40, Try.ntmps40
    go_wp2_with fail
    go_ret2
    exact MdP.mk _ _ rfl (i64_wrap _) (Below.refl _ _)
  · have q' : decide (0 < a * 1000 % c) = false := by simpa using q
    go_enter Try.func40, Try.ntmps40
    go_wp2_with fail
    go_ret2
    exact MdP.mk _ _ rfl HD.out (Below.refl _ _)
set_option maxRecDepth 100000 in
set_option maxHeartbeats 3200000 in
theorem sum_any {w : World} {A : Option Addr} {n c : Nat} {l : List Int} (h : SlI w A n c l) : Calls Try.prog 41 #[.slice A n c] w (TupP w) := by
  have hn := h.1.len_le
  go_enter Try.func41, Try.ntmps41
  go_wp2_with fail
  obtain ⟨wo, hwo⟩ : ∃ wo : World, wo = w := ⟨_, rfl⟩
  go_loopw [4, 5, 6] (fun m ov i wr => ∃ (k : Nat) (z : Int) (b : Bool), k ≤ n ∧ i = .int .i64 (k : Int) ∧ m = .int .i64 z ∧ ov = .bool b ∧ wo = wr) (fun _ _ i _ => n - (intOf i).toNat)
  case atStart => exact ⟨0, 0, false, Nat.zero_le _, rfl, rfl, rfl, hwo⟩
  case round =>
    subst hwo
    obtain ⟨k, z, b, hk, rfl, rfl, rfl, rfl⟩ := hrel
    by_cases hlt : k < n
    · obtain ⟨sb, so, rfl, hsb, s0⟩ := h.at_ hlt
      generalize at0 l k = y at s0
      by_cases q1 : y < 0
      · go_wp2_with fail
        go_ret2
        exact TupP.mk _ _ rfl (Below.refl _ _)
      · have q1' : decide (y < 0) = false := by simpa using q1
        cases b with
        | true =>
          go_wp2_with fail
          exact ⟨⟨k + 1, _, true, by omega, by go_num, rfl, rfl, by first | trivial | rfl⟩, by simp [intOf]; omega⟩
        | false =>
          by_cases q2 : wrap64 (9223372036854775807 - z) < y
          · have q2' : decide (wrap64 (9223372036854775807 - z) < y) = true := decide_eq_true q2
            go_wp2_with fail
            exact ⟨⟨k + 1, _, true, by omega, by go_num, rfl, rfl, by first | trivial | rfl⟩, by simp [intOf]; omega⟩
          · have q2' : decide (wrap64 (9223372036854775807 - z) < y) = false := by simpa using q2
            go_wp2_with fail
            exact ⟨⟨k + 1, _, false, by omega, by go_num, rfl, rfl, by first | trivial | rfl⟩, by simp [intOf]; omega⟩
    · obtain rfl : k = n := by omega
      cases b with
      | true =>
        go_wp2_with fail
        go_ret2
        exact TupP.mk _ _ rfl (Below.refl _ _)
      | false =>
        go_wp2_with fail
        go_ret2
        exact TupP.mk _ _ rfl (Below.refl _ _)
def topL (l : List Lv) : Lv := if l.length = 0 then Lv0 else atD Lv0 l (l.length - 1)
set_option maxRecDepth 100000 in
set_option maxHeartbeats 3200000 in
theorem top_any {w : World} {x : Pw} (hx : rdPw.ok w x) : Calls Try.prog 39 #[.agg #[.slice x.levels.A x.levels.l.length x.levels.c, .slice x.naps.A x.naps.l.length x.naps.c, .int .i64 x.sw, .int .i64 x.idle, .int .i64 x.change, .int .i64 x.quant, .int .i64 x.slow, .int .i64 x.ppm]] w fun e w' => e = .returned (.agg #[.int .i64 (topL x.levels.l).freq, .int .i64 (topL x.levels.l).power]) ∧ Below w.heap.size w w' := by
  have hn := hx.1.1.len
  have hb1 := (Below.refl w.heap.size w).alloc (Nat.le_refl _) (.cells #[.slice x.levels.A x.levels.l.length x.levels.c, .slice x.naps.A x.naps.l.length x.naps.c, .int .i64 x.sw, .int .i64 x.idle, .int .i64 x.change, .int .i64 x.quant, .int .i64 x.slow, .int .i64 x.ppm] 28)
  have hb2 := hb1.alloc hb1.size (.cells #[.int .i64 0, .int .i64 0] 100)
  have k1 := (Blk.new w 28 #[.slice x.levels.A x.levels.l.length x.levels.c, .slice x.naps.A x.naps.l.length x.naps.c, .int .i64 x.sw, .int .i64 x.idle, .int .i64 x.change, .int .i64 x.quant, .int .i64 x.slow, .int .i64 x.ppm]).alloc (.cells #[.int .i64 0, .int .i64 0] 100)
  have k2 := Blk.new (w.alloc (.cells #[.slice x.levels.A x.levels.l.length x.levels.c, .slice x.naps.A x.naps.l.length x.naps.c, .int .i64 x.sw, .int .i64 x.idle, .int .i64 x.change, .int .i64 x.quant, .int .i64 x.slow, .int .i64 x.ppm] 28)) 100 #[.int .i64 0, .int .i64 0]
  rw [World.size_alloc] at k2
  go_enter Try.func39, Try.ntmps39
  go_upto_region 1 with fail
  generalize (w.alloc (.cells #[.slice x.levels.A x.levels.l.length x.levels.c, .slice x.naps.A x.naps.l.length x.naps.c, .int .i64 x.sw, .int .i64 x.idle, .int .i64 x.change, .int .i64 x.quant, .int .i64 x.slow, .int .i64 x.ppm] 28)).alloc (.cells #[.int .i64 0, .int .i64 0] 100) = w1 at hb2 k1 k2 ⊢
  obtain ⟨gx, hgx⟩ : ∃ gx, gx = w.heap.size := ⟨_, rfl⟩
  rw [← hgx] at k1 k2 ⊢
  obtain ⟨gr, hgr⟩ : ∃ gr, gr = gx + 1 := ⟨_, rfl⟩
  rw [← hgr] at k2 ⊢
  have hle : w.heap.size ≤ gr := by omega
  clear hgx hgr hb1
  have lx := k1.lt
  have lr := k2.lt
  have c0 : w1.cell? ⟨gx, 0, none⟩ = some (.slice x.levels.A x.levels.l.length x.levels.c) := k1.cell 0
  have r0 : w1.cell? ⟨gr, 0, none⟩ = some (.int .i64 0) := k2.cell 0
  have r1 : w1.cell? ⟨gr, 1, none⟩ = some (.int .i64 0) := k2.cell 1
  have fz : ∀ i, w1.frozen? ⟨gr, i, none⟩ = false := k2.frozen
  by_cases q : x.levels.l.length = 0
  · have HT : Hid (topL x.levels.l = Lv0) := by unfold Hid topL; rw [if_pos q]
    have q' : ((x.levels.l.length : Int) == 0) = true := by rw [q]; rfl
    clear q
    go_wp2_with fail
    have rK : Blk (setRow w1 gr 0 [.int .i64 0, .int .i64 0]) gr 100 _ := Blk.row k2 rfl
    have rB := Below.row (g := gr) [.int .i64 0, .int .i64 0] 0 hb2 hle
    simp only [setRow, Nat.zero_add] at rK rB
    generalize (w1.setCell ⟨gr, 0, none⟩ (.int .i64 0)).setCell ⟨gr, 1, none⟩ (.int .i64 0) = w9 at rK rB ⊢
    have y0 : w9.cell? ⟨gr, 0, none⟩ = some (.int .i64 0) := rK.cell 0
    have y1 : w9.cell? ⟨gr, 1, none⟩ = some (.int .i64 0) := rK.cell 1
    try simp only [Exit.inBlock, Exit.then]
    refine bodyPost_ret (v := .agg #[.int .i64 0, .int .i64 0]) (by simp [results, Try.results39, go_sem, y0, y1]) rfl ⟨?_, rB⟩
    rw [HT.out]
    rfl
  · have HT : Hid (topL x.levels.l = atD Lv0 x.levels.l (x.levels.l.length - 1)) := by unfold Hid topL; rw [if_neg q]
    have q' : ((x.levels.l.length : Int) == 0) = false := beq_eq_false_iff_ne.2 (by omega)
    obtain ⟨sb, so, hA, hsb, hsc⟩ := (rdLvs.keep hx.1 hb2).1.at_ Lv0 (k := x.levels.l.length - 1) (by omega)
    obtain ⟨m, hm⟩ : ∃ m, m = x.levels.l.length - 1 := ⟨_, rfl⟩
    rw [← hm] at hsc HT
    have s0 : w1.cell? ⟨sb, so + m * 2, none⟩ = some (.int .i64 (atD Lv0 x.levels.l m).freq) := hsc 0 _ rfl
    have s1 : w1.cell? ⟨sb, so + m * 2 + 1, none⟩ = some (.int .i64 (atD Lv0 x.levels.l m).power) := hsc 1 _ rfl
    rw [hA] at c0
    clear hA hsc
    generalize atD Lv0 x.levels.l m = y at s0 s1 HT
    have hnm : x.levels.l.length = m + 1 := by omega
    rw [hnm] at c0
    have q2 : ((m : Int) + 1 == 0) = false := beq_eq_false_iff_ne.2 (by omega)
    have hw : wrap64 (m : Int) = (m : Int) := (by unfold wrap64; omega)
    clear q hn q' hm hnm
    go_wp2_with fail
    have rK : Blk (setRow w1 gr 0 [.int .i64 y.freq, .int .i64 y.power]) gr 100 _ := Blk.row k2 rfl
    have rB := Below.row (g := gr) [.int .i64 y.freq, .int .i64 y.power] 0 hb2 hle
    simp only [setRow, Nat.zero_add] at rK rB
    generalize (w1.setCell ⟨gr, 0, none⟩ (.int .i64 y.freq)).setCell ⟨gr, 1, none⟩ (.int .i64 y.power) = w9 at rK rB ⊢
    have y0 : w9.cell? ⟨gr, 0, none⟩ = some (.int .i64 y.freq) := rK.cell 0
    have y1 : w9.cell? ⟨gr, 1, none⟩ = some (.int .i64 y.power) := rK.cell 1
    try simp only [Exit.inBlock, Exit.then]
    refine bodyPost_ret (v := .agg #[.int .i64 y.freq, .int .i64 y.power]) (by simp [results, Try.results39, go_sem, y0, y1]) rfl ⟨?_, rB⟩
    rw [HT.out]
theorem run_freq (a b : Int) (w : World) : (Instr.field 100 (.agg #[.int .i64 a, .int .i64 b]) 0).run Try.prog w = .ok (.int .i64 a) w := by kernel_rfl
set_option maxRecDepth 100000 in
set_option maxHeartbeats 3200000 in
theorem need_any {w : World} {x : Pw} (hx : rdPw.ok w x) {a : Int} (ha : 1 ≤ a) (ha2 : a ≤ 1000000000) : Calls Try.prog 36 #[.agg #[.slice x.levels.A x.levels.l.length x.levels.c, .slice x.naps.A x.naps.l.length x.naps.c, .int .i64 x.sw, .int .i64 x.idle, .int .i64 x.change, .int .i64 x.quant, .int .i64 x.slow, .int .i64 x.ppm], .int .i64 a] w (TupP w) := by
  have hb1 := (Below.refl w.heap.size w).alloc (Nat.le_refl _) (.cells #[.slice x.levels.A x.levels.l.length x.levels.c, .slice x.naps.A x.naps.l.length x.naps.c, .int .i64 x.sw, .int .i64 x.idle, .int .i64 x.change, .int .i64 x.quant, .int .i64 x.slow, .int .i64 x.ppm] 28)
  have k1 := Blk.new w 28 #[.slice x.levels.A x.levels.l.length x.levels.c, .slice x.naps.A x.naps.l.length x.naps.c, .int .i64 x.sw, .int .i64 x.idle, .int .i64 x.change, .int .i64 x.quant, .int .i64 x.slow, .int .i64 x.ppm]
  have t1 : decide (a < 0) = false := by simp; omega
  have hsw : i64 x.sw := hx.2.2.1
  have hfr : i64 (topL x.levels.l).freq := by
    unfold topL
    split
    · unfold i64; simp [Lv0]
    · rename_i q
      exact (hx.1.2 _ (atD_mem (d := Lv0) (by omega))).1
  unfold i64 at hfr
  go_enter Try.func36, Try.ntmps36
  go_upto_region 1 with fail
  generalize w.alloc (.cells #[.slice x.levels.A x.levels.l.length x.levels.c, .slice x.naps.A x.naps.l.length x.naps.c, .int .i64 x.sw, .int .i64 x.idle, .int .i64 x.change, .int .i64 x.quant, .int .i64 x.slow, .int .i64 x.ppm] 28) = w1 at hb1 k1 ⊢
  obtain ⟨gx, hgx⟩ : ∃ gx, gx = w.heap.size := ⟨_, rfl⟩
  rw [← hgx] at k1 ⊢
  clear hgx
  have c0 : w1.cell? ⟨gx, 0, none⟩ = some (.slice x.levels.A x.levels.l.length x.levels.c) := k1.cell 0
  have c1 : w1.cell? ⟨gx, 1, none⟩ = some (.slice x.naps.A x.naps.l.length x.naps.c) := k1.cell 1
  have c2 : w1.cell? ⟨gx, 2, none⟩ = some (.int .i64 x.sw) := k1.cell 2
  have c3 : w1.cell? ⟨gx, 3, none⟩ = some (.int .i64 x.idle) := k1.cell 3
  have c4 : w1.cell? ⟨gx, 4, none⟩ = some (.int .i64 x.change) := k1.cell 4
  have c5 : w1.cell? ⟨gx, 5, none⟩ = some (.int .i64 x.quant) := k1.cell 5
  have c6 : w1.cell? ⟨gx, 6, none⟩ = some (.int .i64 x.slow) := k1.cell 6
  have c7 : w1.cell? ⟨gx, 7, none⟩ = some (.int .i64 x.ppm) := k1.cell 7
  have lx := k1.lt
  by_cases q1 : x.sw < 0
  · go_wp2_with fail
    go_ret2
    exact TupP.mk _ _ rfl hb1
  · have q1' : decide (x.sw < 0) = false := by simpa using q1
    go_wp2_with fail
    refine (top_any (rdPw.keep hx hb1)).mono ?_
    rintro e w2 ⟨rfl, hb2⟩
    have k2 := k1.keep hb2
    have hB2 := hb1.trans (hb2.mono hb1.size)
    clear c0 c1 c2 c3 c4 c5 c6 c7 lx
    have lx := k2.lt
    have c0 : w2.cell? ⟨gx, 0, none⟩ = some (.slice x.levels.A x.levels.l.length x.levels.c) := k2.cell 0
    have c1 : w2.cell? ⟨gx, 1, none⟩ = some (.slice x.naps.A x.naps.l.length x.naps.c) := k2.cell 1
    have c2 : w2.cell? ⟨gx, 2, none⟩ = some (.int .i64 x.sw) := k2.cell 2
    have c3 : w2.cell? ⟨gx, 3, none⟩ = some (.int .i64 x.idle) := k2.cell 3
    have c4 : w2.cell? ⟨gx, 4, none⟩ = some (.int .i64 x.change) := k2.cell 4
    have c5 : w2.cell? ⟨gx, 5, none⟩ = some (.int .i64 x.quant) := k2.cell 5
    have c6 : w2.cell? ⟨gx, 6, none⟩ = some (.int .i64 x.slow) := k2.cell 6
    have c7 : w2.cell? ⟨gx, 7, none⟩ = some (.int .i64 x.ppm) := k2.cell 7
    generalize htt : topL x.levels.l = t at hfr ⊢
    have HT := Lib.hid htt
    have hfld := run_freq t.freq t.power
    clear htt
    by_cases q2 : t.freq < 1
    · go_wp2_with fail
      go_ret2
      exact TupP.mk _ _ rfl hB2
    · have q2' : decide (t.freq < 1) = false := by simpa using q2
      go_wp2_with fail
      refine (top_any (rdPw.keep hx hB2)).mono ?_
      rintro e w3 ⟨rfl, hb3⟩
      rw [HT.out]
      have k3 := k2.keep hb3
      have hB3 := hB2.trans (hb3.mono hB2.size)
      clear c0 c1 c2 c3 c4 c5 c6 c7 lx
      have lx := k3.lt
      go_wp2_with fail
      refine (muldiv_any ha ha2 (by omega) hfr.2).mono ?_
      rintro e w4 ⟨n, z, rfl, hn4, hb4⟩
      have k4 := k3.keep hb4
      have hB4 := hB3.trans (hb4.mono hB3.size)
      have lx4 := k4.lt
      have c2 : w4.cell? ⟨gx, 2, none⟩ = some (.int .i64 x.sw) := k4.cell 2
      clear lx
      by_cases qz : z = 0
      · have qz' : (z != 0) = false := by simpa using qz
        clear qz
        have hb5 := (Below.refl w4.heap.size w4).alloc (Nat.le_refl _) (.cells #[.int .i64 x.sw, .int .i64 n] 3)
        have k5 := Blk.new w4 3 #[.int .i64 x.sw, .int .i64 n]
        have hs5 := SlI.of_blk k5 [x.sw, n] rfl (show 2 ≤ 1000000 by omega) (fun y hy => by
          simp only [List.mem_cons, List.mem_nil_iff, or_false] at hy
          rcases hy with rfl | rfl <;> assumption)
        go_wp2_with fail
        refine (sum_any hs5).mono ?_
        rintro e w6 ⟨n6, z6, rfl, hb6⟩
        have hB6 := hB4.trans ((hb5.trans (hb6.mono hb5.size)).mono hB4.size)
        go_wp2_with fail
        go_ret2
        exact TupP.mk _ _ rfl hB6
      · have qz' : (z != 0) = true := by simpa using qz
        clear qz
        go_wp2_with fail
        go_ret2
        exact TupP.mk _ _ rfl hB4
set_option maxRecDepth 100000 in
set_option maxHeartbeats 3200000 in
theorem fits_any {w : World} {x : Pw} (hx : rdPw.ok w x) {a : Int} (ha : 1 ≤ a) (ha2 : a ≤ 1000000000) (l : Int) : Calls Try.prog 34 #[.agg #[.slice x.levels.A x.levels.l.length x.levels.c, .slice x.naps.A x.naps.l.length x.naps.c, .int .i64 x.sw, .int .i64 x.idle, .int .i64 x.change, .int .i64 x.quant, .int .i64 x.slow, .int .i64 x.ppm], .int .i64 a, .int .i64 l] w (BoolP w) := by
  have hb1 := (Below.refl w.heap.size w).alloc (Nat.le_refl _) (.cells #[.slice x.levels.A x.levels.l.length x.levels.c, .slice x.naps.A x.naps.l.length x.naps.c, .int .i64 x.sw, .int .i64 x.idle, .int .i64 x.change, .int .i64 x.quant, .int .i64 x.slow, .int .i64 x.ppm] 28)
  have k1 := Blk.new w 28 #[.slice x.levels.A x.levels.l.length x.levels.c, .slice x.naps.A x.naps.l.length x.naps.c, .int .i64 x.sw, .int .i64 x.idle, .int .i64 x.change, .int .i64 x.quant, .int .i64 x.slow, .int .i64 x.ppm]
  go_enter Try.func34, Try.ntmps34
  go_upto_region 1 with fail
  generalize w.alloc (.cells #[.slice x.levels.A x.levels.l.length x.levels.c, .slice x.naps.A x.naps.l.length x.naps.c, .int .i64 x.sw, .int .i64 x.idle, .int .i64 x.change, .int .i64 x.quant, .int .i64 x.slow, .int .i64 x.ppm] 28) = w1 at hb1 k1 ⊢
  obtain ⟨gx, hgx⟩ : ∃ gx, gx = w.heap.size := ⟨_, rfl⟩
  rw [← hgx] at k1 ⊢
  clear hgx
  have c0 : w1.cell? ⟨gx, 0, none⟩ = some (.slice x.levels.A x.levels.l.length x.levels.c) := k1.cell 0
  have c1 : w1.cell? ⟨gx, 1, none⟩ = some (.slice x.naps.A x.naps.l.length x.naps.c) := k1.cell 1
  have c2 : w1.cell? ⟨gx, 2, none⟩ = some (.int .i64 x.sw) := k1.cell 2
  have c3 : w1.cell? ⟨gx, 3, none⟩ = some (.int .i64 x.idle) := k1.cell 3
  have c4 : w1.cell? ⟨gx, 4, none⟩ = some (.int .i64 x.change) := k1.cell 4
  have c5 : w1.cell? ⟨gx, 5, none⟩ = some (.int .i64 x.quant) := k1.cell 5
  have c6 : w1.cell? ⟨gx, 6, none⟩ = some (.int .i64 x.slow) := k1.cell 6
  have c7 : w1.cell? ⟨gx, 7, none⟩ = some (.int .i64 x.ppm) := k1.cell 7
  have lx := k1.lt
  go_wp2_with fail
  refine (need_any (rdPw.keep hx hb1) ha ha2).mono ?_
  rintro e w2 ⟨n, z, rfl, hb2⟩
  have hB2 := hb1.trans (hb2.mono hb1.size)
  by_cases qz : z = 0
  · have qz' : (z == 0) = true := by simpa using qz
    clear qz
    by_cases ql : n ≤ l
    · go_wp2_with fail
      go_ret
      exact BoolP.mk true rfl hB2
    · have ql' : decide (n ≤ l) = false := by simpa using ql
      go_wp2_with fail
      go_ret
      exact BoolP.mk false rfl hB2
  · have qz' : (z == 0) = false := by simpa using qz
    clear qz
    go_wp2_with fail
    go_ret
    exact BoolP.mk false rfl hB2
end Go.Proofs.Ytiglabknaldinaa
