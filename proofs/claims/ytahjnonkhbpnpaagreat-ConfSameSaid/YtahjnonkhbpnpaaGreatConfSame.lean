/- The law ConfSame returns true whatever the input. -/
import Derived.Test.YtahjnonkhbpnpaaGreatConfBack
namespace Go.Proofs.YtahjnonkhbpnpaaGreat
open Go.RowKit
theorem same_eq {W : World} {x y : Cf} {b : Bool} (hx : rdCf.ok W x) (hy : rdCf.ok W y) (h : b = true ↔ bCf x = bCf y) (e1 : encBad x = false) (e2 : encBad y = false) : b = sameD x y := by
  unfold sameD
  rw [e1, e2]
  simp only [Bool.not_false, Bool.true_and]
  cases b with
  | true => exact (decide_eq_true ((encCf_iff hx hy).2 (h.1 rfl))).symm
  | false => exact (decide_eq_false (fun e => absurd (h.2 ((encCf_iff hx hy).1 e)) (by decide))).symm
set_option maxRecDepth 100000 in
set_option maxHeartbeats 12800000 in
theorem confSame_law {x y : Cf} {w : World} (hx : rdCf.ok w x) (hy : rdCf.ok w y) :
    Calls Tryz.prog 6 #[x.v, y.v] w fun e w' => e = .returned (.bool true) ∧ Below w.heap.size w w' := by
  have hb0 := (Below.refl w.heap.size w).alloc (Nat.le_refl _) (.cells #[.slice x.parts.A x.parts.l.length x.parts.c, .slice x.chans.A x.chans.l.length x.chans.c, .slice x.modes.A x.modes.l.length x.modes.c, .slice x.pw.levels.A x.pw.levels.l.length x.pw.levels.c, .slice x.pw.naps.A x.pw.naps.l.length x.pw.naps.c, .int .i64 x.pw.sw, .int .i64 x.pw.idle, .int .i64 x.pw.change, .int .i64 x.pw.quant, .int .i64 x.pw.slow, .int .i64 x.pw.ppm, .slice x.shed.down.A x.shed.down.l.length x.shed.down.c, .slice x.shed.up.A x.shed.up.l.length x.shed.up.c] 33)
  have hb := hb0.alloc hb0.size (.cells #[.slice y.parts.A y.parts.l.length y.parts.c, .slice y.chans.A y.chans.l.length y.chans.c, .slice y.modes.A y.modes.l.length y.modes.c, .slice y.pw.levels.A y.pw.levels.l.length y.pw.levels.c, .slice y.pw.naps.A y.pw.naps.l.length y.pw.naps.c, .int .i64 y.pw.sw, .int .i64 y.pw.idle, .int .i64 y.pw.change, .int .i64 y.pw.quant, .int .i64 y.pw.slow, .int .i64 y.pw.ppm, .slice y.shed.down.A y.shed.down.l.length y.shed.down.c, .slice y.shed.up.A y.shed.up.l.length y.shed.up.c] 33)
  have b1 := (Blk.new w 33 #[.slice x.parts.A x.parts.l.length x.parts.c, .slice x.chans.A x.chans.l.length x.chans.c, .slice x.modes.A x.modes.l.length x.modes.c, .slice x.pw.levels.A x.pw.levels.l.length x.pw.levels.c, .slice x.pw.naps.A x.pw.naps.l.length x.pw.naps.c, .int .i64 x.pw.sw, .int .i64 x.pw.idle, .int .i64 x.pw.change, .int .i64 x.pw.quant, .int .i64 x.pw.slow, .int .i64 x.pw.ppm, .slice x.shed.down.A x.shed.down.l.length x.shed.down.c, .slice x.shed.up.A x.shed.up.l.length x.shed.up.c]).alloc (.cells #[.slice y.parts.A y.parts.l.length y.parts.c, .slice y.chans.A y.chans.l.length y.chans.c, .slice y.modes.A y.modes.l.length y.modes.c, .slice y.pw.levels.A y.pw.levels.l.length y.pw.levels.c, .slice y.pw.naps.A y.pw.naps.l.length y.pw.naps.c, .int .i64 y.pw.sw, .int .i64 y.pw.idle, .int .i64 y.pw.change, .int .i64 y.pw.quant, .int .i64 y.pw.slow, .int .i64 y.pw.ppm, .slice y.shed.down.A y.shed.down.l.length y.shed.down.c, .slice y.shed.up.A y.shed.up.l.length y.shed.up.c] 33)
  have k1 := Blk.new (w.alloc (.cells #[.slice x.parts.A x.parts.l.length x.parts.c, .slice x.chans.A x.chans.l.length x.chans.c, .slice x.modes.A x.modes.l.length x.modes.c, .slice x.pw.levels.A x.pw.levels.l.length x.pw.levels.c, .slice x.pw.naps.A x.pw.naps.l.length x.pw.naps.c, .int .i64 x.pw.sw, .int .i64 x.pw.idle, .int .i64 x.pw.change, .int .i64 x.pw.quant, .int .i64 x.pw.slow, .int .i64 x.pw.ppm, .slice x.shed.down.A x.shed.down.l.length x.shed.down.c, .slice x.shed.up.A x.shed.up.l.length x.shed.up.c] 33)) 33 #[.slice y.parts.A y.parts.l.length y.parts.c, .slice y.chans.A y.chans.l.length y.chans.c, .slice y.modes.A y.modes.l.length y.modes.c, .slice y.pw.levels.A y.pw.levels.l.length y.pw.levels.c, .slice y.pw.naps.A y.pw.naps.l.length y.pw.naps.c, .int .i64 y.pw.sw, .int .i64 y.pw.idle, .int .i64 y.pw.change, .int .i64 y.pw.quant, .int .i64 y.pw.slow, .int .i64 y.pw.ppm, .slice y.shed.down.A y.shed.down.l.length y.shed.down.c, .slice y.shed.up.A y.shed.up.l.length y.shed.up.c]
  rw [World.size_alloc] at k1
  simp only [Cf.v]
  go_enter Tryz.func6, Tryz.ntmps6
  go_upto_region 1 with fail
  generalize (w.alloc (.cells #[.slice x.parts.A x.parts.l.length x.parts.c, .slice x.chans.A x.chans.l.length x.chans.c, .slice x.modes.A x.modes.l.length x.modes.c, .slice x.pw.levels.A x.pw.levels.l.length x.pw.levels.c, .slice x.pw.naps.A x.pw.naps.l.length x.pw.naps.c, .int .i64 x.pw.sw, .int .i64 x.pw.idle, .int .i64 x.pw.change, .int .i64 x.pw.quant, .int .i64 x.pw.slow, .int .i64 x.pw.ppm, .slice x.shed.down.A x.shed.down.l.length x.shed.down.c, .slice x.shed.up.A x.shed.up.l.length x.shed.up.c] 33)).alloc (.cells #[.slice y.parts.A y.parts.l.length y.parts.c, .slice y.chans.A y.chans.l.length y.chans.c, .slice y.modes.A y.modes.l.length y.modes.c, .slice y.pw.levels.A y.pw.levels.l.length y.pw.levels.c, .slice y.pw.naps.A y.pw.naps.l.length y.pw.naps.c, .int .i64 y.pw.sw, .int .i64 y.pw.idle, .int .i64 y.pw.change, .int .i64 y.pw.quant, .int .i64 y.pw.slow, .int .i64 y.pw.ppm, .slice y.shed.down.A y.shed.down.l.length y.shed.down.c, .slice y.shed.up.A y.shed.up.l.length y.shed.up.c] 33) = w1 at hb b1 k1 ⊢
  obtain ⟨gx, hgx⟩ : ∃ gx, gx = w.heap.size := ⟨_, rfl⟩
  rw [← hgx] at b1 k1 ⊢
  obtain ⟨gy, hgy⟩ : ∃ gy, gy = gx + 1 := ⟨_, rfl⟩
  rw [← hgy] at k1 ⊢
  clear hgx hgy hb0
  have lx1 := b1.lt
  have c0 : w1.cell? ⟨gx, 0, none⟩ = some (.slice x.parts.A x.parts.l.length x.parts.c) := b1.cell 0
  have c1 : w1.cell? ⟨gx, 1, none⟩ = some (.slice x.chans.A x.chans.l.length x.chans.c) := b1.cell 1
  have c2 : w1.cell? ⟨gx, 2, none⟩ = some (.slice x.modes.A x.modes.l.length x.modes.c) := b1.cell 2
  have c3 : w1.cell? ⟨gx, 3, none⟩ = some (.slice x.pw.levels.A x.pw.levels.l.length x.pw.levels.c) := b1.cell 3
  have c4 : w1.cell? ⟨gx, 4, none⟩ = some (.slice x.pw.naps.A x.pw.naps.l.length x.pw.naps.c) := b1.cell 4
  have c5 : w1.cell? ⟨gx, 5, none⟩ = some (.int .i64 x.pw.sw) := b1.cell 5
  have c6 : w1.cell? ⟨gx, 6, none⟩ = some (.int .i64 x.pw.idle) := b1.cell 6
  have c7 : w1.cell? ⟨gx, 7, none⟩ = some (.int .i64 x.pw.change) := b1.cell 7
  have c8 : w1.cell? ⟨gx, 8, none⟩ = some (.int .i64 x.pw.quant) := b1.cell 8
  have c9 : w1.cell? ⟨gx, 9, none⟩ = some (.int .i64 x.pw.slow) := b1.cell 9
  have c10 : w1.cell? ⟨gx, 10, none⟩ = some (.int .i64 x.pw.ppm) := b1.cell 10
  have c11 : w1.cell? ⟨gx, 11, none⟩ = some (.slice x.shed.down.A x.shed.down.l.length x.shed.down.c) := b1.cell 11
  have c12 : w1.cell? ⟨gx, 12, none⟩ = some (.slice x.shed.up.A x.shed.up.l.length x.shed.up.c) := b1.cell 12
  go_wp2_with fail
  refine (short_any (w := w1) (rdCf.keep hx hb)).mono ?_
  rintro e w2 ⟨bs, rfl, hsh, hb2⟩
  have b2 := b1.keep hb2
  have k2 := k1.keep hb2
  have hB2 := hb.trans (hb2.mono hb.size)
  clear c0 c1 c2 c3 c4 c5 c6 c7 c8 c9 c10 c11 c12 lx1
  cases bs with
  | false =>
    clear hsh
    go_wp2_with fail
    refine (works_any _).mono ?_
    rintro e w3 ⟨rfl, hb3⟩
    go_wp2_with fail
    go_ret
    exact ⟨rfl, hB2.trans (hb3.mono hB2.size)⟩
  | true =>
    have HSX := Lib.hid (hsh rfl)
    clear hsh
    have ly2 := k2.lt
    have d0 : w2.cell? ⟨gy, 0, none⟩ = some (.slice y.parts.A y.parts.l.length y.parts.c) := k2.cell 0
    have d1 : w2.cell? ⟨gy, 1, none⟩ = some (.slice y.chans.A y.chans.l.length y.chans.c) := k2.cell 1
    have d2 : w2.cell? ⟨gy, 2, none⟩ = some (.slice y.modes.A y.modes.l.length y.modes.c) := k2.cell 2
    have d3 : w2.cell? ⟨gy, 3, none⟩ = some (.slice y.pw.levels.A y.pw.levels.l.length y.pw.levels.c) := k2.cell 3
    have d4 : w2.cell? ⟨gy, 4, none⟩ = some (.slice y.pw.naps.A y.pw.naps.l.length y.pw.naps.c) := k2.cell 4
    have d5 : w2.cell? ⟨gy, 5, none⟩ = some (.int .i64 y.pw.sw) := k2.cell 5
    have d6 : w2.cell? ⟨gy, 6, none⟩ = some (.int .i64 y.pw.idle) := k2.cell 6
    have d7 : w2.cell? ⟨gy, 7, none⟩ = some (.int .i64 y.pw.change) := k2.cell 7
    have d8 : w2.cell? ⟨gy, 8, none⟩ = some (.int .i64 y.pw.quant) := k2.cell 8
    have d9 : w2.cell? ⟨gy, 9, none⟩ = some (.int .i64 y.pw.slow) := k2.cell 9
    have d10 : w2.cell? ⟨gy, 10, none⟩ = some (.int .i64 y.pw.ppm) := k2.cell 10
    have d11 : w2.cell? ⟨gy, 11, none⟩ = some (.slice y.shed.down.A y.shed.down.l.length y.shed.down.c) := k2.cell 11
    have d12 : w2.cell? ⟨gy, 12, none⟩ = some (.slice y.shed.up.A y.shed.up.l.length y.shed.up.c) := k2.cell 12
    go_wp2_with fail
    refine (short_any (w := w2) (rdCf.keep hy hB2)).mono ?_
    rintro e w3 ⟨bs, rfl, hsh, hb3⟩
    have b3 := b2.keep hb3
    have k3 := k2.keep hb3
    have hB3 := hB2.trans (hb3.mono hB2.size)
    clear d0 d1 d2 d3 d4 d5 d6 d7 d8 d9 d10 d11 d12 ly2
    cases bs with
    | false =>
      clear hsh
      go_wp2_with fail
      refine (works_any _).mono ?_
      rintro e w4 ⟨rfl, hb4⟩
      go_wp2_with fail
      go_ret
      exact ⟨rfl, hB3.trans (hb4.mono hB3.size)⟩
    | true =>
      have HSY := Lib.hid (hsh rfl)
      clear hsh
      have lx3 := b3.lt
      have c0 : w3.cell? ⟨gx, 0, none⟩ = some (.slice x.parts.A x.parts.l.length x.parts.c) := b3.cell 0
      have c1 : w3.cell? ⟨gx, 1, none⟩ = some (.slice x.chans.A x.chans.l.length x.chans.c) := b3.cell 1
      have c2 : w3.cell? ⟨gx, 2, none⟩ = some (.slice x.modes.A x.modes.l.length x.modes.c) := b3.cell 2
      have c3 : w3.cell? ⟨gx, 3, none⟩ = some (.slice x.pw.levels.A x.pw.levels.l.length x.pw.levels.c) := b3.cell 3
      have c4 : w3.cell? ⟨gx, 4, none⟩ = some (.slice x.pw.naps.A x.pw.naps.l.length x.pw.naps.c) := b3.cell 4
      have c5 : w3.cell? ⟨gx, 5, none⟩ = some (.int .i64 x.pw.sw) := b3.cell 5
      have c6 : w3.cell? ⟨gx, 6, none⟩ = some (.int .i64 x.pw.idle) := b3.cell 6
      have c7 : w3.cell? ⟨gx, 7, none⟩ = some (.int .i64 x.pw.change) := b3.cell 7
      have c8 : w3.cell? ⟨gx, 8, none⟩ = some (.int .i64 x.pw.quant) := b3.cell 8
      have c9 : w3.cell? ⟨gx, 9, none⟩ = some (.int .i64 x.pw.slow) := b3.cell 9
      have c10 : w3.cell? ⟨gx, 10, none⟩ = some (.int .i64 x.pw.ppm) := b3.cell 10
      have c11 : w3.cell? ⟨gx, 11, none⟩ = some (.slice x.shed.down.A x.shed.down.l.length x.shed.down.c) := b3.cell 11
      have c12 : w3.cell? ⟨gx, 12, none⟩ = some (.slice x.shed.up.A x.shed.up.l.length x.shed.up.c) := b3.cell 12
      go_wp2_with fail
      refine (refEncode_any x (rdCf.keep hx hB3) HSX.out).mono ?_
      rintro e w4 ⟨v, z, rfl, hz, hown, hb4⟩
      have HZ := Lib.hid hz
      have b4 := b3.keep hb4
      have k4 := k3.keep hb4
      have hB4 := hB3.trans (hb4.mono hB3.size)
      clear hz hown c0 c1 c2 c3 c4 c5 c6 c7 c8 c9 c10 c11 c12 lx3
      have ly4 := k4.lt
      have d0 : w4.cell? ⟨gy, 0, none⟩ = some (.slice y.parts.A y.parts.l.length y.parts.c) := k4.cell 0
      have d1 : w4.cell? ⟨gy, 1, none⟩ = some (.slice y.chans.A y.chans.l.length y.chans.c) := k4.cell 1
      have d2 : w4.cell? ⟨gy, 2, none⟩ = some (.slice y.modes.A y.modes.l.length y.modes.c) := k4.cell 2
      have d3 : w4.cell? ⟨gy, 3, none⟩ = some (.slice y.pw.levels.A y.pw.levels.l.length y.pw.levels.c) := k4.cell 3
      have d4 : w4.cell? ⟨gy, 4, none⟩ = some (.slice y.pw.naps.A y.pw.naps.l.length y.pw.naps.c) := k4.cell 4
      have d5 : w4.cell? ⟨gy, 5, none⟩ = some (.int .i64 y.pw.sw) := k4.cell 5
      have d6 : w4.cell? ⟨gy, 6, none⟩ = some (.int .i64 y.pw.idle) := k4.cell 6
      have d7 : w4.cell? ⟨gy, 7, none⟩ = some (.int .i64 y.pw.change) := k4.cell 7
      have d8 : w4.cell? ⟨gy, 8, none⟩ = some (.int .i64 y.pw.quant) := k4.cell 8
      have d9 : w4.cell? ⟨gy, 9, none⟩ = some (.int .i64 y.pw.slow) := k4.cell 9
      have d10 : w4.cell? ⟨gy, 10, none⟩ = some (.int .i64 y.pw.ppm) := k4.cell 10
      have d11 : w4.cell? ⟨gy, 11, none⟩ = some (.slice y.shed.down.A y.shed.down.l.length y.shed.down.c) := k4.cell 11
      have d12 : w4.cell? ⟨gy, 12, none⟩ = some (.slice y.shed.up.A y.shed.up.l.length y.shed.up.c) := k4.cell 12
      go_wp2_with fail
      refine (refEncode_any y (rdCf.keep hy hB4) HSY.out).mono ?_
      rintro e w5 ⟨v', z', rfl, hz', hown', hb5⟩
      have HZ' := Lib.hid hz'
      have b5 := b4.keep hb5
      have k5 := k4.keep hb5
      have hB5 := hB4.trans (hb5.mono hB4.size)
      clear hz' hown' d0 d1 d2 d3 d4 d5 d6 d7 d8 d9 d10 d11 d12 ly4
      cases hbx : encBad x with
      | true =>
        have hzz : z = 3 := by rw [HZ.out, hbx]; rfl
        subst hzz
        clear HZ HZ' hbx
        go_wp2_with fail
        refine (works_any _).mono ?_
        rintro e w6 ⟨rfl, hb6⟩
        go_wp2_with fail
        go_ret
        exact ⟨rfl, hB5.trans (hb6.mono hB5.size)⟩
      | false =>
        have hzz : z = 0 := by rw [HZ.out, hbx]; rfl
        subst hzz
        cases hby : encBad y with
        | true =>
          have hzz : z' = 3 := by rw [HZ'.out, hby]; rfl
          subst hzz
          clear HZ HZ' hbx hby
          go_wp2_with fail
          refine (works_any _).mono ?_
          rintro e w6 ⟨rfl, hb6⟩
          go_wp2_with fail
          go_ret
          exact ⟨rfl, hB5.trans (hb6.mono hB5.size)⟩
        | false =>
          have hzz : z' = 0 := by rw [HZ'.out, hby]; rfl
          subst hzz
          have HBX := Lib.hid hbx
          have HBY := Lib.hid hby
          clear HZ HZ' hbx hby
          have lx := b5.lt
          have ly := k5.lt
          have c0 : w5.cell? ⟨gx, 0, none⟩ = some (.slice x.parts.A x.parts.l.length x.parts.c) := b5.cell 0
          have c1 : w5.cell? ⟨gx, 1, none⟩ = some (.slice x.chans.A x.chans.l.length x.chans.c) := b5.cell 1
          have c2 : w5.cell? ⟨gx, 2, none⟩ = some (.slice x.modes.A x.modes.l.length x.modes.c) := b5.cell 2
          have c3 : w5.cell? ⟨gx, 3, none⟩ = some (.slice x.pw.levels.A x.pw.levels.l.length x.pw.levels.c) := b5.cell 3
          have c4 : w5.cell? ⟨gx, 4, none⟩ = some (.slice x.pw.naps.A x.pw.naps.l.length x.pw.naps.c) := b5.cell 4
          have c5 : w5.cell? ⟨gx, 5, none⟩ = some (.int .i64 x.pw.sw) := b5.cell 5
          have c6 : w5.cell? ⟨gx, 6, none⟩ = some (.int .i64 x.pw.idle) := b5.cell 6
          have c7 : w5.cell? ⟨gx, 7, none⟩ = some (.int .i64 x.pw.change) := b5.cell 7
          have c8 : w5.cell? ⟨gx, 8, none⟩ = some (.int .i64 x.pw.quant) := b5.cell 8
          have c9 : w5.cell? ⟨gx, 9, none⟩ = some (.int .i64 x.pw.slow) := b5.cell 9
          have c10 : w5.cell? ⟨gx, 10, none⟩ = some (.int .i64 x.pw.ppm) := b5.cell 10
          have c11 : w5.cell? ⟨gx, 11, none⟩ = some (.slice x.shed.down.A x.shed.down.l.length x.shed.down.c) := b5.cell 11
          have c12 : w5.cell? ⟨gx, 12, none⟩ = some (.slice x.shed.up.A x.shed.up.l.length x.shed.up.c) := b5.cell 12
          have d0 : w5.cell? ⟨gy, 0, none⟩ = some (.slice y.parts.A y.parts.l.length y.parts.c) := k5.cell 0
          have d1 : w5.cell? ⟨gy, 1, none⟩ = some (.slice y.chans.A y.chans.l.length y.chans.c) := k5.cell 1
          have d2 : w5.cell? ⟨gy, 2, none⟩ = some (.slice y.modes.A y.modes.l.length y.modes.c) := k5.cell 2
          have d3 : w5.cell? ⟨gy, 3, none⟩ = some (.slice y.pw.levels.A y.pw.levels.l.length y.pw.levels.c) := k5.cell 3
          have d4 : w5.cell? ⟨gy, 4, none⟩ = some (.slice y.pw.naps.A y.pw.naps.l.length y.pw.naps.c) := k5.cell 4
          have d5 : w5.cell? ⟨gy, 5, none⟩ = some (.int .i64 y.pw.sw) := k5.cell 5
          have d6 : w5.cell? ⟨gy, 6, none⟩ = some (.int .i64 y.pw.idle) := k5.cell 6
          have d7 : w5.cell? ⟨gy, 7, none⟩ = some (.int .i64 y.pw.change) := k5.cell 7
          have d8 : w5.cell? ⟨gy, 8, none⟩ = some (.int .i64 y.pw.quant) := k5.cell 8
          have d9 : w5.cell? ⟨gy, 9, none⟩ = some (.int .i64 y.pw.slow) := k5.cell 9
          have d10 : w5.cell? ⟨gy, 10, none⟩ = some (.int .i64 y.pw.ppm) := k5.cell 10
          have d11 : w5.cell? ⟨gy, 11, none⟩ = some (.slice y.shed.down.A y.shed.down.l.length y.shed.down.c) := k5.cell 11
          have d12 : w5.cell? ⟨gy, 12, none⟩ = some (.slice y.shed.up.A y.shed.up.l.length y.shed.up.c) := k5.cell 12
          go_upto_region 7 with fail
          refine wp_region_fen (fun _ => False) [(2, 0), (2, 0), (4, 0), (4, 0), (2, 0)] (by kernel_rfl) (by kernel_rfl) ?_
          simp only [wpSegsF, List.take, List.drop]
          repeat (go_big_quiet_step (fail))
          refine wpQuiet_nil (wpHeadF_want rfl (fun K' hK' => ?_))
          go_wp2_with fail
          refine (same_Cf (w := w5.drew) (rdCf.keep hx hB5.drew) (rdCf.keep hy hB5.drew)).mono ?_
          rintro e w6 ⟨b6, rfl, hb6, hbl6⟩
          have hbe := same_eq (rdCf.keep hx hB5) (rdCf.keep hy hB5) hb6 HBX.out HBY.out
          subst hbe
          have hL6 : Below w5.heap.size w5 w6 := (Below.drew (Below.refl w5.heap.size w5)).trans hbl6
          have hB6 := hB5.trans (hL6.mono hB5.size)
          clear hb6 hbl6
          refine hK' _ _ rfl (fr_graft (Fr.of_below hL6 _)) ?_
          clear hK' K'
          try simp only [List.take, List.drop]
          repeat (go_big_quiet_step (fail))
          refine wpQuiet_nil (wpHeadF_want rfl (fun K' hK' => ?_))
          go_wp2_with fail
          refine (refSame_any (rdCf.keep hx hB6) (rdCf.keep hy hB6) HSX.out HSY.out).mono ?_
          rintro e w7 ⟨rfl, hbl7⟩
          have hL7 := hL6.trans (hbl7.mono hL6.size)
          have hB7 := hB5.trans (hL7.mono hB5.size)
          clear hbl7
          refine hK' _ _ rfl (fr_graft (Fr.of_below hL7 _)) ?_
          clear hK' K'
          have hbb : (sameD x y == sameD x y) = true := by simp
          generalize sameD x y = sd at hbb ⊢
          try simp only [List.take, List.drop]
          repeat (go_big_quiet_step (fail))
          refine wpQuiet_nil (wpHeadF_want rfl (fun K' hK' => ?_))
          go_wp2_with fail
          refine (same_Cf (rdCf.keep hx hB7) (rdCf.keep hx hB7)).mono ?_
          rintro e w8 ⟨b8, rfl, hb8, hbl8⟩
          have hbt : b8 = true := hb8.2 rfl
          subst hbt
          have hL8 := hL7.trans (hbl8.mono hL7.size)
          have hB8 := hB5.trans (hL8.mono hB5.size)
          clear hb8 hbl8
          refine hK' _ _ rfl (fr_graft (Fr.of_below hL8 _)) ?_
          clear hK' K'
          try simp only [List.take, List.drop]
          repeat (go_big_quiet_step (fail))
          refine wpQuiet_nil (wpHeadF_want rfl (fun K' hK' => ?_))
          go_wp2_with fail
          refine (same_Cf (rdCf.keep hy hB8) (rdCf.keep hy hB8)).mono ?_
          rintro e w9 ⟨b9, rfl, hb9, hbl9⟩
          have hbt : b9 = true := hb9.2 rfl
          subst hbt
          have hL9 := hL8.trans (hbl9.mono hL8.size)
          have hB9 := hB5.trans (hL9.mono hB5.size)
          clear hb9 hbl9
          refine hK' _ _ rfl (fr_graft (Fr.of_below hL9 _)) ?_
          clear hK' K'
          try simp only [List.take, List.drop]
          repeat (go_big_quiet_step (fail))
          refine wpQuiet_nil (wpHeadF_want rfl (fun K' hK' => ?_))
          go_wp2_with fail
          refine (works_any _).mono ?_
          rintro e w10 ⟨rfl, hbl10⟩
          have hL10 := hL9.trans (hbl10.mono hL9.size)
          have hB10 := hB5.trans (hL10.mono hB5.size)
          refine hK' _ _ rfl (fr_graft (Fr.of_below hL10 _)) ?_
          clear hK' K'
          try simp only [wpSegsF, List.take, List.drop]
          repeat (go_big_quiet_step (fail))
          refine wpQuiet_nil ?_
          go_wp2_with fail
          go_ret
          exact ⟨rfl, hB10⟩
end Go.Proofs.YtahjnonkhbpnpaaGreat
