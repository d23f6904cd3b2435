/- The law ConfReads returns true whatever the input. -/
import Derived.Test.YtahjnonkhbpnpaaGreatCm13
import Derived.Test.YtahjnonkhbpnpaaGreatCm6
import Derived.Test.YtahjnonkhbpnpaaGreatCm9
namespace Go.Proofs.YtahjnonkhbpnpaaGreat
open Go.RowKit
/-- what is read of few bytes is not too long. -/
theorem read_same {x y : Cf} {l : List UInt8} {z : Int} (hl : l.length ≤ 65536) (h0 : z = 0 → encCf x = l ∧ badCf x = false) (hn : z ≠ 0 → x = Cf0) (k0 : z = 0 → encCf y = l ∧ badCf y = false) (kn : z ≠ 0 → y = Cf0) : sameD x y = true ∧ x.short ∧ y.short := by
  by_cases hz : z = 0
  · obtain ⟨a, b⟩ := h0 hz
    obtain ⟨c, d⟩ := k0 hz
    refine ⟨?_, short_ok b, short_ok d⟩
    have e1 : encBad x = false := by unfold encBad; rw [a, b, decide_eq_false (by omega)]; rfl
    have e2 : encBad y = false := by unfold encBad; rw [c, d, decide_eq_false (by omega)]; rfl
    unfold sameD
    rw [e1, e2, a, c]
    simp
  · rw [hn hz, kn hz]
    refine ⟨?_, cf0_short, cf0_short⟩
    unfold sameD
    rw [cf0_bad]
    simp
set_option maxRecDepth 100000 in
set_option maxHeartbeats 6400000 in
theorem confReads_law {w : World} {A : Option Addr} {n c : Nat} {l : List UInt8} (h : SlB w A n c l) :
    Calls Tryz.prog 4 #[.slice A n c] w fun e w' => e = .returned (.bool true) ∧ Below w.heap.size w w' := by
  have hln := h.2
  by_cases hbig : 4000 < n
  · go_enter Tryz.func4, Tryz.ntmps4
    go_wp2_with fail
    refine (works_any _).mono ?_
    rintro e w3 ⟨rfl, hb3⟩
    go_wp2_with fail
    go_ret
    exact ⟨rfl, hb3⟩
  · have hbig' : decide ((4000 : Int) < n) = false := by simp; omega
    go_enter Tryz.func4, Tryz.ntmps4
    go_wp2_with fail
    refine (decode_any h (by omega)).mono ?_
    rintro e w1 ⟨x, z, rfl, hx, hb1, hz, h0, hn⟩
    have HZ := Lib.hid hz
    have H0 := Lib.hid h0
    have HN := Lib.hid hn
    have hb2 := (Below.refl w1.heap.size w1).alloc (Nat.le_refl _) (.cells #[.slice x.parts.A x.parts.l.length x.parts.c, .slice x.chans.A x.chans.l.length x.chans.c, .slice x.modes.A x.modes.l.length x.modes.c, .slice x.pw.levels.A x.pw.levels.l.length x.pw.levels.c, .slice x.pw.naps.A x.pw.naps.l.length x.pw.naps.c, .int .i64 x.pw.sw, .int .i64 x.pw.idle, .int .i64 x.pw.change, .int .i64 x.pw.quant, .int .i64 x.pw.slow, .int .i64 x.pw.ppm, .slice x.shed.down.A x.shed.down.l.length x.shed.down.c, .slice x.shed.up.A x.shed.up.l.length x.shed.up.c] 33)
    have k2 := Blk.new w1 33 #[.slice x.parts.A x.parts.l.length x.parts.c, .slice x.chans.A x.chans.l.length x.chans.c, .slice x.modes.A x.modes.l.length x.modes.c, .slice x.pw.levels.A x.pw.levels.l.length x.pw.levels.c, .slice x.pw.naps.A x.pw.naps.l.length x.pw.naps.c, .int .i64 x.pw.sw, .int .i64 x.pw.idle, .int .i64 x.pw.change, .int .i64 x.pw.quant, .int .i64 x.pw.slow, .int .i64 x.pw.ppm, .slice x.shed.down.A x.shed.down.l.length x.shed.down.c, .slice x.shed.up.A x.shed.up.l.length x.shed.up.c]
    have hB2 := hb1.trans (hb2.mono hb1.size)
    have hx2 := rdCf.keep hx hb2
    clear hz h0 hn
    unfold Cf.v
    go_upto_region 4 with fail
    generalize w1.alloc (.cells #[.slice x.parts.A x.parts.l.length x.parts.c, .slice x.chans.A x.chans.l.length x.chans.c, .slice x.modes.A x.modes.l.length x.modes.c, .slice x.pw.levels.A x.pw.levels.l.length x.pw.levels.c, .slice x.pw.naps.A x.pw.naps.l.length x.pw.naps.c, .int .i64 x.pw.sw, .int .i64 x.pw.idle, .int .i64 x.pw.change, .int .i64 x.pw.quant, .int .i64 x.pw.slow, .int .i64 x.pw.ppm, .slice x.shed.down.A x.shed.down.l.length x.shed.down.c, .slice x.shed.up.A x.shed.up.l.length x.shed.up.c] 33) = w2 at hb2 k2 hB2 hx2 ⊢
    generalize w1.heap.size = gx at k2 ⊢
    go_wp2_with fail
    refine (refDecode_any (h.keep hB2) (by omega)).mono ?_
    rintro e w3 ⟨y, z', rfl, hy, hb3, hz', k0, kn⟩
    have hzz : z' = z := by rw [hz', HZ.out]
    subst hzz
    have HS := Lib.hid (read_same (by omega) H0.out HN.out k0 kn)
    have hb4 := (Below.refl w3.heap.size w3).alloc (Nat.le_refl _) (.cells #[.slice y.parts.A y.parts.l.length y.parts.c, .slice y.chans.A y.chans.l.length y.chans.c, .slice y.modes.A y.modes.l.length y.modes.c, .slice y.pw.levels.A y.pw.levels.l.length y.pw.levels.c, .slice y.pw.naps.A y.pw.naps.l.length y.pw.naps.c, .int .i64 y.pw.sw, .int .i64 y.pw.idle, .int .i64 y.pw.change, .int .i64 y.pw.quant, .int .i64 y.pw.slow, .int .i64 y.pw.ppm, .slice y.shed.down.A y.shed.down.l.length y.shed.down.c, .slice y.shed.up.A y.shed.up.l.length y.shed.up.c] 33)
    have k4 := Blk.new w3 33 #[.slice y.parts.A y.parts.l.length y.parts.c, .slice y.chans.A y.chans.l.length y.chans.c, .slice y.modes.A y.modes.l.length y.modes.c, .slice y.pw.levels.A y.pw.levels.l.length y.pw.levels.c, .slice y.pw.naps.A y.pw.naps.l.length y.pw.naps.c, .int .i64 y.pw.sw, .int .i64 y.pw.idle, .int .i64 y.pw.change, .int .i64 y.pw.quant, .int .i64 y.pw.slow, .int .i64 y.pw.ppm, .slice y.shed.down.A y.shed.down.l.length y.shed.down.c, .slice y.shed.up.A y.shed.up.l.length y.shed.up.c]
    have hb34 := hb3.trans (hb4.mono hb3.size)
    have k2' := k2.keep hb34
    have hB4 := hB2.trans (hb34.mono hB2.size)
    have hx4 := rdCf.keep hx2 hb34
    have hy4 := rdCf.keep hy hb4
    clear hz' k0 kn HZ H0 HN hb3 hb34
    unfold Cf.v
    go_upto_region 5 with fail
    generalize w3.alloc (.cells #[.slice y.parts.A y.parts.l.length y.parts.c, .slice y.chans.A y.chans.l.length y.chans.c, .slice y.modes.A y.modes.l.length y.modes.c, .slice y.pw.levels.A y.pw.levels.l.length y.pw.levels.c, .slice y.pw.naps.A y.pw.naps.l.length y.pw.naps.c, .int .i64 y.pw.sw, .int .i64 y.pw.idle, .int .i64 y.pw.change, .int .i64 y.pw.quant, .int .i64 y.pw.slow, .int .i64 y.pw.ppm, .slice y.shed.down.A y.shed.down.l.length y.shed.down.c, .slice y.shed.up.A y.shed.up.l.length y.shed.up.c] 33) = w4 at hb4 k4 k2' hB4 hx4 hy4 ⊢
    generalize w3.heap.size = gy at k4 ⊢
    have lx := k2'.lt
    have ly := k4.lt
    have c0 : w4.cell? ⟨gx, 0, none⟩ = some (.slice x.parts.A x.parts.l.length x.parts.c) := k2'.cell 0
    have c1 : w4.cell? ⟨gx, 1, none⟩ = some (.slice x.chans.A x.chans.l.length x.chans.c) := k2'.cell 1
    have c2 : w4.cell? ⟨gx, 2, none⟩ = some (.slice x.modes.A x.modes.l.length x.modes.c) := k2'.cell 2
    have c3 : w4.cell? ⟨gx, 3, none⟩ = some (.slice x.pw.levels.A x.pw.levels.l.length x.pw.levels.c) := k2'.cell 3
    have c4 : w4.cell? ⟨gx, 4, none⟩ = some (.slice x.pw.naps.A x.pw.naps.l.length x.pw.naps.c) := k2'.cell 4
    have c5 : w4.cell? ⟨gx, 5, none⟩ = some (.int .i64 x.pw.sw) := k2'.cell 5
    have c6 : w4.cell? ⟨gx, 6, none⟩ = some (.int .i64 x.pw.idle) := k2'.cell 6
    have c7 : w4.cell? ⟨gx, 7, none⟩ = some (.int .i64 x.pw.change) := k2'.cell 7
    have c8 : w4.cell? ⟨gx, 8, none⟩ = some (.int .i64 x.pw.quant) := k2'.cell 8
    have c9 : w4.cell? ⟨gx, 9, none⟩ = some (.int .i64 x.pw.slow) := k2'.cell 9
    have c10 : w4.cell? ⟨gx, 10, none⟩ = some (.int .i64 x.pw.ppm) := k2'.cell 10
    have c11 : w4.cell? ⟨gx, 11, none⟩ = some (.slice x.shed.down.A x.shed.down.l.length x.shed.down.c) := k2'.cell 11
    have c12 : w4.cell? ⟨gx, 12, none⟩ = some (.slice x.shed.up.A x.shed.up.l.length x.shed.up.c) := k2'.cell 12
    have d0 : w4.cell? ⟨gy, 0, none⟩ = some (.slice y.parts.A y.parts.l.length y.parts.c) := k4.cell 0
    have d1 : w4.cell? ⟨gy, 1, none⟩ = some (.slice y.chans.A y.chans.l.length y.chans.c) := k4.cell 1
    have d2 : w4.cell? ⟨gy, 2, none⟩ = some (.slice y.modes.A y.modes.l.length y.modes.c) := k4.cell 2
    have d3 : w4.cell? ⟨gy, 3, none⟩ = some (.slice y.pw.levels.A y.pw.levels.l.length y.pw.levels.c) := k4.cell 3
    have d4 : w4.cell? ⟨gy, 4, none⟩ = some (.slice y.pw.naps.A y.pw.naps.l.length y.pw.naps.c) := k4.cell 4
    have d5 : w4.cell? ⟨gy, 5, none⟩ = some (.int .i64 y.pw.sw) := k4.cell 5
    have d6 : w4.cell? ⟨gy, 6, none⟩ = some (.int .i64 y.pw.idle) := k4.cell 6
    have d7 : w4.cell? ⟨gy, 7, none⟩ = some (.int .i64 y.pw.change) := k4.cell 7
    have d8 : w4.cell? ⟨gy, 8, none⟩ = some (.int .i64 y.pw.quant) := k4.cell 8
    have d9 : w4.cell? ⟨gy, 9, none⟩ = some (.int .i64 y.pw.slow) := k4.cell 9
    have d10 : w4.cell? ⟨gy, 10, none⟩ = some (.int .i64 y.pw.ppm) := k4.cell 10
    have d11 : w4.cell? ⟨gy, 11, none⟩ = some (.slice y.shed.down.A y.shed.down.l.length y.shed.down.c) := k4.cell 11
    have d12 : w4.cell? ⟨gy, 12, none⟩ = some (.slice y.shed.up.A y.shed.up.l.length y.shed.up.c) := k4.cell 12
    go_wp2_with fail
    refine (refSame_any hx4 hy4 HS.out.2.1 HS.out.2.2).mono ?_
    rintro e w5 ⟨rfl, hb5⟩
    rw [HS.out.1]
    have hB5 := hB4.trans (hb5.mono hB4.size)
    clear c0 c1 c2 c3 c4 c5 c6 c7 c8 c9 c10 c11 c12 d0 d1 d2 d3 d4 d5 d6 d7 d8 d9 d10 d11 d12 lx ly
    go_wp2_with fail
    refine (works_any _).mono ?_
    rintro e w6 ⟨rfl, hb6⟩
    go_wp2_with fail
    go_ret
    exact ⟨rfl, hB5.trans (hb6.mono hB5.size)⟩
end Go.Proofs.YtahjnonkhbpnpaaGreat
