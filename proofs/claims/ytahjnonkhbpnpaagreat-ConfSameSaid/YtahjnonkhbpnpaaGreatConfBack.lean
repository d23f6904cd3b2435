/- The law ConfBack returns true whatever the input. -/
import Derived.Test.YtahjnonkhbpnpaaGreatCm6
import Derived.Test.YtahjnonkhbpnpaaGreatCm9
namespace Go.Proofs.YtahjnonkhbpnpaaGreat
open Go.RowKit
theorem encBad_no {x : Cf} (h : encBad x = false) : badCf x = false ∧ (encCf x).length ≤ 65536 ∧ encOut x = encCf x := by
  have h' := h
  unfold encBad at h
  rw [Bool.or_eq_false_iff] at h
  exact ⟨h.1, by simpa using h.2, by unfold encOut; rw [h', if_neg Bool.false_ne_true]⟩
set_option maxRecDepth 100000 in
set_option maxHeartbeats 12800000 in
theorem confBack_law {x : Cf} {w : World} {A : Option Addr} {n c : Nat} {l : List UInt8} (hx : rdCf.ok w x) (h : SlB w A n c l) :
    Calls Tryz.prog 5 #[x.v, .slice A n c] w fun e w' => e = .returned (.bool true) ∧ Below w.heap.size w w' := by
  have hln := h.2
  have hb := (Below.refl w.heap.size w).alloc (Nat.le_refl _) (.cells #[.slice x.parts.A x.parts.l.length x.parts.c, .slice x.chans.A x.chans.l.length x.chans.c, .slice x.modes.A x.modes.l.length x.modes.c, .slice x.pw.levels.A x.pw.levels.l.length x.pw.levels.c, .slice x.pw.naps.A x.pw.naps.l.length x.pw.naps.c, .int .i64 x.pw.sw, .int .i64 x.pw.idle, .int .i64 x.pw.change, .int .i64 x.pw.quant, .int .i64 x.pw.slow, .int .i64 x.pw.ppm, .slice x.shed.down.A x.shed.down.l.length x.shed.down.c, .slice x.shed.up.A x.shed.up.l.length x.shed.up.c] 33)
  have b1 := Blk.new w 33 #[.slice x.parts.A x.parts.l.length x.parts.c, .slice x.chans.A x.chans.l.length x.chans.c, .slice x.modes.A x.modes.l.length x.modes.c, .slice x.pw.levels.A x.pw.levels.l.length x.pw.levels.c, .slice x.pw.naps.A x.pw.naps.l.length x.pw.naps.c, .int .i64 x.pw.sw, .int .i64 x.pw.idle, .int .i64 x.pw.change, .int .i64 x.pw.quant, .int .i64 x.pw.slow, .int .i64 x.pw.ppm, .slice x.shed.down.A x.shed.down.l.length x.shed.down.c, .slice x.shed.up.A x.shed.up.l.length x.shed.up.c]
  simp only [Cf.v]
  go_enter Tryz.func5, Tryz.ntmps5
  go_upto_region 1 with fail
  generalize w.alloc (.cells #[.slice x.parts.A x.parts.l.length x.parts.c, .slice x.chans.A x.chans.l.length x.chans.c, .slice x.modes.A x.modes.l.length x.modes.c, .slice x.pw.levels.A x.pw.levels.l.length x.pw.levels.c, .slice x.pw.naps.A x.pw.naps.l.length x.pw.naps.c, .int .i64 x.pw.sw, .int .i64 x.pw.idle, .int .i64 x.pw.change, .int .i64 x.pw.quant, .int .i64 x.pw.slow, .int .i64 x.pw.ppm, .slice x.shed.down.A x.shed.down.l.length x.shed.down.c, .slice x.shed.up.A x.shed.up.l.length x.shed.up.c] 33) = w1 at hb b1 ⊢
  obtain ⟨gx, hgx⟩ : ∃ gx, gx = w.heap.size := ⟨_, rfl⟩
  rw [← hgx] at b1 ⊢
  clear hgx
  have c0 : w1.cell? ⟨gx, 0, none⟩ = some (.slice x.parts.A x.parts.l.length x.parts.c) := b1.cell 0
  have c1 : w1.cell? ⟨gx, 1, none⟩ = some (.slice x.chans.A x.chans.l.length x.chans.c) := b1.cell 1
  have c2 : w1.cell? ⟨gx, 2, none⟩ = some (.slice x.modes.A x.modes.l.length x.modes.c) := b1.cell 2
  have c3 : w1.cell? ⟨gx, 3, none⟩ = some (.slice x.pw.levels.A x.pw.levels.l.length x.pw.levels.c) := b1.cell 3
  have c4 : w1.cell? ⟨gx, 4, none⟩ = some (.slice x.pw.naps.A x.pw.naps.l.length x.pw.naps.c) := b1.cell 4
  have c5 : w1.cell? ⟨gx, 5, none⟩ = some (.int .i64 x.pw.sw) := b1.cell 5
  have c6 : w1.cell? ⟨gx, 6, none⟩ = some (.int .i64 x.pw.idle) := b1.cell 6
  have c7 : w1.cell? ⟨gx, 7, none⟩ = some (.int .i64 x.pw.change) := b1.cell 7
  have c8 : w1.cell? ⟨gx, 8, none⟩ = some (.int .i64 x.pw.quant) := b1.cell 8
  have c9 : w1.cell? ⟨gx, 9, none⟩ = some (.int .i64 x.pw.slow) := b1.cell 9
  have c10 : w1.cell? ⟨gx, 10, none⟩ = some (.int .i64 x.pw.ppm) := b1.cell 10
  have c11 : w1.cell? ⟨gx, 11, none⟩ = some (.slice x.shed.down.A x.shed.down.l.length x.shed.down.c) := b1.cell 11
  have c12 : w1.cell? ⟨gx, 12, none⟩ = some (.slice x.shed.up.A x.shed.up.l.length x.shed.up.c) := b1.cell 12
  have hl1 := b1.lt
  go_wp2_with fail
  refine (short_any (w := w1) (rdCf.keep hx hb)).mono ?_
  rintro e w2 ⟨bs, rfl, hsh, hb2⟩
  have b2 := b1.keep hb2
  have hB2 := hb.trans (hb2.mono hb.size)
  clear c0 c1 c2 c3 c4 c5 c6 c7 c8 c9 c10 c11 c12
  cases bs with
  | false =>
    clear hsh
    go_wp2_with fail
    refine (works_any _).mono ?_
    rintro e w3 ⟨rfl, hb3⟩
    go_wp2_with fail
    go_ret
    exact ⟨rfl, hB2.trans (hb3.mono hB2.size)⟩
  | true =>
    have HSH := Lib.hid (hsh rfl)
    clear hsh
    by_cases hbig : 4000 < n
    · go_wp2_with fail
      refine (works_any _).mono ?_
      rintro e w3 ⟨rfl, hb3⟩
      go_wp2_with fail
      go_ret
      exact ⟨rfl, hB2.trans (hb3.mono hB2.size)⟩
    · have hbig' : decide ((4000 : Int) < n) = false := by simp; omega
      have c0 : w2.cell? ⟨gx, 0, none⟩ = some (.slice x.parts.A x.parts.l.length x.parts.c) := b2.cell 0
      have c1 : w2.cell? ⟨gx, 1, none⟩ = some (.slice x.chans.A x.chans.l.length x.chans.c) := b2.cell 1
      have c2 : w2.cell? ⟨gx, 2, none⟩ = some (.slice x.modes.A x.modes.l.length x.modes.c) := b2.cell 2
      have c3 : w2.cell? ⟨gx, 3, none⟩ = some (.slice x.pw.levels.A x.pw.levels.l.length x.pw.levels.c) := b2.cell 3
      have c4 : w2.cell? ⟨gx, 4, none⟩ = some (.slice x.pw.naps.A x.pw.naps.l.length x.pw.naps.c) := b2.cell 4
      have c5 : w2.cell? ⟨gx, 5, none⟩ = some (.int .i64 x.pw.sw) := b2.cell 5
      have c6 : w2.cell? ⟨gx, 6, none⟩ = some (.int .i64 x.pw.idle) := b2.cell 6
      have c7 : w2.cell? ⟨gx, 7, none⟩ = some (.int .i64 x.pw.change) := b2.cell 7
      have c8 : w2.cell? ⟨gx, 8, none⟩ = some (.int .i64 x.pw.quant) := b2.cell 8
      have c9 : w2.cell? ⟨gx, 9, none⟩ = some (.int .i64 x.pw.slow) := b2.cell 9
      have c10 : w2.cell? ⟨gx, 10, none⟩ = some (.int .i64 x.pw.ppm) := b2.cell 10
      have c11 : w2.cell? ⟨gx, 11, none⟩ = some (.slice x.shed.down.A x.shed.down.l.length x.shed.down.c) := b2.cell 11
      have c12 : w2.cell? ⟨gx, 12, none⟩ = some (.slice x.shed.up.A x.shed.up.l.length x.shed.up.c) := b2.cell 12
      have hl2 := b2.lt
      go_wp2_with fail
      refine (encode_any (rdCf.keep hx hB2) HSH.out).mono ?_
      rintro e w3 ⟨v, z, rfl, hz, hown, hb3⟩
      have HZ := Lib.hid hz
      have b3 := b2.keep hb3
      have hB3 := hB2.trans (hb3.mono hB2.size)
      have hx3 := rdCf.keep hx hB3
      clear hz c0 c1 c2 c3 c4 c5 c6 c7 c8 c9 c10 c11 c12 hl2
      cases hbx : encBad x
      case' true =>
        have hzz : z = 3 := by rw [HZ.out, hbx]; rfl
        subst hzz
        clear HZ hbx hown hx3 b3
        go_wp2_with fail
        generalize w3 = w6 at hB3 ⊢
        have hB6 := hB3
        clear hB3
      case' false =>
        have hzz : z = 0 := by rw [HZ.out, hbx]; rfl
        subst hzz
        obtain ⟨q1, q2, q3⟩ := encBad_no hbx
        rw [q3] at hown
        obtain ⟨D, k, rfl, hs, -⟩ := SlB.of_own hown
        have HD := Lib.hid (decE_enc hx3 q1)
        clear HZ hbx hown q3
        have hq2 : (encCf x).length ≤ 65536 := q2
        go_wp2_with fail
        refine (decode_any hs hq2).mono ?_
        rintro e w4 ⟨y, z', rfl, hy, hb4, hz', h0, hn⟩
        rw [HD.out] at hz'
        subst hz'
        have HE := Lib.hid (h0 rfl).1
        have b4 := b3.keep hb4
        have hB4 := hB3.trans (hb4.mono hB3.size)
        have hb5 := (Below.refl w4.heap.size w4).alloc (Nat.le_refl _) (.cells #[.slice y.parts.A y.parts.l.length y.parts.c, .slice y.chans.A y.chans.l.length y.chans.c, .slice y.modes.A y.modes.l.length y.modes.c, .slice y.pw.levels.A y.pw.levels.l.length y.pw.levels.c, .slice y.pw.naps.A y.pw.naps.l.length y.pw.naps.c, .int .i64 y.pw.sw, .int .i64 y.pw.idle, .int .i64 y.pw.change, .int .i64 y.pw.quant, .int .i64 y.pw.slow, .int .i64 y.pw.ppm, .slice y.shed.down.A y.shed.down.l.length y.shed.down.c, .slice y.shed.up.A y.shed.up.l.length y.shed.up.c] 33)
        have k5 := Blk.new w4 33 #[.slice y.parts.A y.parts.l.length y.parts.c, .slice y.chans.A y.chans.l.length y.chans.c, .slice y.modes.A y.modes.l.length y.modes.c, .slice y.pw.levels.A y.pw.levels.l.length y.pw.levels.c, .slice y.pw.naps.A y.pw.naps.l.length y.pw.naps.c, .int .i64 y.pw.sw, .int .i64 y.pw.idle, .int .i64 y.pw.change, .int .i64 y.pw.quant, .int .i64 y.pw.slow, .int .i64 y.pw.ppm, .slice y.shed.down.A y.shed.down.l.length y.shed.down.c, .slice y.shed.up.A y.shed.up.l.length y.shed.up.c]
        have b5 := b4.keep hb5
        have hB5 := hB4.trans (hb5.mono hB4.size)
        have hy5 := rdCf.keep hy hb5
        have hx5 := rdCf.keep hx hB5
        clear h0 hn hs q1 q2 hq2 HD hx3
        unfold Cf.v
        go_upto_region 6 with fail
        generalize w4.alloc (.cells #[.slice y.parts.A y.parts.l.length y.parts.c, .slice y.chans.A y.chans.l.length y.chans.c, .slice y.modes.A y.modes.l.length y.modes.c, .slice y.pw.levels.A y.pw.levels.l.length y.pw.levels.c, .slice y.pw.naps.A y.pw.naps.l.length y.pw.naps.c, .int .i64 y.pw.sw, .int .i64 y.pw.idle, .int .i64 y.pw.change, .int .i64 y.pw.quant, .int .i64 y.pw.slow, .int .i64 y.pw.ppm, .slice y.shed.down.A y.shed.down.l.length y.shed.down.c, .slice y.shed.up.A y.shed.up.l.length y.shed.up.c] 33) = w5 at hb5 k5 b5 hB5 hy5 hx5 ⊢
        generalize w4.heap.size = gy at k5 ⊢
        have lx := b5.lt
        have ly := k5.lt
        have c0 : w5.cell? ⟨gx, 0, none⟩ = some (.slice x.parts.A x.parts.l.length x.parts.c) := b5.cell 0
        have c1 : w5.cell? ⟨gx, 1, none⟩ = some (.slice x.chans.A x.chans.l.length x.chans.c) := b5.cell 1
        have c2 : w5.cell? ⟨gx, 2, none⟩ = some (.slice x.modes.A x.modes.l.length x.modes.c) := b5.cell 2
        have c3 : w5.cell? ⟨gx, 3, none⟩ = some (.slice x.pw.levels.A x.pw.levels.l.length x.pw.levels.c) := b5.cell 3
        have c4 : w5.cell? ⟨gx, 4, none⟩ = some (.slice x.pw.naps.A x.pw.naps.l.length x.pw.naps.c) := b5.cell 4
        have c5 : w5.cell? ⟨gx, 5, none⟩ = some (.int .i64 x.pw.sw) := b5.cell 5
        have c6 : w5.cell? ⟨gx, 6, none⟩ = some (.int .i64 x.pw.idle) := b5.cell 6
        have c7 : w5.cell? ⟨gx, 7, none⟩ = some (.int .i64 x.pw.change) := b5.cell 7
        have c8 : w5.cell? ⟨gx, 8, none⟩ = some (.int .i64 x.pw.quant) := b5.cell 8
        have c9 : w5.cell? ⟨gx, 9, none⟩ = some (.int .i64 x.pw.slow) := b5.cell 9
        have c10 : w5.cell? ⟨gx, 10, none⟩ = some (.int .i64 x.pw.ppm) := b5.cell 10
        have c11 : w5.cell? ⟨gx, 11, none⟩ = some (.slice x.shed.down.A x.shed.down.l.length x.shed.down.c) := b5.cell 11
        have c12 : w5.cell? ⟨gx, 12, none⟩ = some (.slice x.shed.up.A x.shed.up.l.length x.shed.up.c) := b5.cell 12
        have d0 : w5.cell? ⟨gy, 0, none⟩ = some (.slice y.parts.A y.parts.l.length y.parts.c) := k5.cell 0
        have d1 : w5.cell? ⟨gy, 1, none⟩ = some (.slice y.chans.A y.chans.l.length y.chans.c) := k5.cell 1
        have d2 : w5.cell? ⟨gy, 2, none⟩ = some (.slice y.modes.A y.modes.l.length y.modes.c) := k5.cell 2
        have d3 : w5.cell? ⟨gy, 3, none⟩ = some (.slice y.pw.levels.A y.pw.levels.l.length y.pw.levels.c) := k5.cell 3
        have d4 : w5.cell? ⟨gy, 4, none⟩ = some (.slice y.pw.naps.A y.pw.naps.l.length y.pw.naps.c) := k5.cell 4
        have d5 : w5.cell? ⟨gy, 5, none⟩ = some (.int .i64 y.pw.sw) := k5.cell 5
        have d6 : w5.cell? ⟨gy, 6, none⟩ = some (.int .i64 y.pw.idle) := k5.cell 6
        have d7 : w5.cell? ⟨gy, 7, none⟩ = some (.int .i64 y.pw.change) := k5.cell 7
        have d8 : w5.cell? ⟨gy, 8, none⟩ = some (.int .i64 y.pw.quant) := k5.cell 8
        have d9 : w5.cell? ⟨gy, 9, none⟩ = some (.int .i64 y.pw.slow) := k5.cell 9
        have d10 : w5.cell? ⟨gy, 10, none⟩ = some (.int .i64 y.pw.ppm) := k5.cell 10
        have d11 : w5.cell? ⟨gy, 11, none⟩ = some (.slice y.shed.down.A y.shed.down.l.length y.shed.down.c) := k5.cell 11
        have d12 : w5.cell? ⟨gy, 12, none⟩ = some (.slice y.shed.up.A y.shed.up.l.length y.shed.up.c) := k5.cell 12
        go_wp2_with fail
        refine (same_Cf hx5 hy5).mono ?_
        rintro e w6 ⟨b, rfl, hb9, hbl⟩
        have hbt : b = true := hb9.2 (encCf_inj hx5 hy5 HE.out.symm)
        subst hbt
        have hB6 := hB5.trans (hbl.mono hB5.size)
        clear c0 c1 c2 c3 c4 c5 c6 c7 c8 c9 c10 c11 c12 d0 d1 d2 d3 d4 d5 d6 d7 d8 d9 d10 d11 d12 lx ly hb9 hbl
        go_wp2_with fail
      all_goals
        refine (decode_any (h.keep hB6) (by omega)).mono ?_
        rintro e w7 ⟨y, z', rfl, hy, hb7, hz', h0, hn⟩
        have H0 := Lib.hid h0
        have hB7 := hB6.trans (hb7.mono hB6.size)
        have hb8 := (Below.refl w7.heap.size w7).alloc (Nat.le_refl _) (.cells #[.slice y.parts.A y.parts.l.length y.parts.c, .slice y.chans.A y.chans.l.length y.chans.c, .slice y.modes.A y.modes.l.length y.modes.c, .slice y.pw.levels.A y.pw.levels.l.length y.pw.levels.c, .slice y.pw.naps.A y.pw.naps.l.length y.pw.naps.c, .int .i64 y.pw.sw, .int .i64 y.pw.idle, .int .i64 y.pw.change, .int .i64 y.pw.quant, .int .i64 y.pw.slow, .int .i64 y.pw.ppm, .slice y.shed.down.A y.shed.down.l.length y.shed.down.c, .slice y.shed.up.A y.shed.up.l.length y.shed.up.c] 33)
        have k8 := Blk.new w7 33 #[.slice y.parts.A y.parts.l.length y.parts.c, .slice y.chans.A y.chans.l.length y.chans.c, .slice y.modes.A y.modes.l.length y.modes.c, .slice y.pw.levels.A y.pw.levels.l.length y.pw.levels.c, .slice y.pw.naps.A y.pw.naps.l.length y.pw.naps.c, .int .i64 y.pw.sw, .int .i64 y.pw.idle, .int .i64 y.pw.change, .int .i64 y.pw.quant, .int .i64 y.pw.slow, .int .i64 y.pw.ppm, .slice y.shed.down.A y.shed.down.l.length y.shed.down.c, .slice y.shed.up.A y.shed.up.l.length y.shed.up.c]
        have hB8 := hB7.trans (hb8.mono hB7.size)
        have hy8 := rdCf.keep hy hb8
        clear h0 hn hz'
        unfold Cf.v
        go_upto_region 9 with fail
        generalize w7.alloc (.cells #[.slice y.parts.A y.parts.l.length y.parts.c, .slice y.chans.A y.chans.l.length y.chans.c, .slice y.modes.A y.modes.l.length y.modes.c, .slice y.pw.levels.A y.pw.levels.l.length y.pw.levels.c, .slice y.pw.naps.A y.pw.naps.l.length y.pw.naps.c, .int .i64 y.pw.sw, .int .i64 y.pw.idle, .int .i64 y.pw.change, .int .i64 y.pw.quant, .int .i64 y.pw.slow, .int .i64 y.pw.ppm, .slice y.shed.down.A y.shed.down.l.length y.shed.down.c, .slice y.shed.up.A y.shed.up.l.length y.shed.up.c] 33) = w8 at hb8 k8 hB8 hy8 ⊢
        generalize w7.heap.size = gd at k8 ⊢
        by_cases hzz : z' = 0
        · subst hzz
          obtain ⟨e1, e2⟩ := H0.out rfl
          have e3 : encBad y = false := by unfold encBad; rw [e1, e2, decide_eq_false (by omega)]; rfl
          have HS := Lib.hid (short_ok e2)
          have HO : Hid (encOut y = l) := by unfold Hid; rw [(encBad_no e3).2.2, e1]
          have HB := Lib.hid e3
          clear H0 e1 e2 e3
          have ld := k8.lt
          have c0 : w8.cell? ⟨gd, 0, none⟩ = some (.slice y.parts.A y.parts.l.length y.parts.c) := k8.cell 0
          have c1 : w8.cell? ⟨gd, 1, none⟩ = some (.slice y.chans.A y.chans.l.length y.chans.c) := k8.cell 1
          have c2 : w8.cell? ⟨gd, 2, none⟩ = some (.slice y.modes.A y.modes.l.length y.modes.c) := k8.cell 2
          have c3 : w8.cell? ⟨gd, 3, none⟩ = some (.slice y.pw.levels.A y.pw.levels.l.length y.pw.levels.c) := k8.cell 3
          have c4 : w8.cell? ⟨gd, 4, none⟩ = some (.slice y.pw.naps.A y.pw.naps.l.length y.pw.naps.c) := k8.cell 4
          have c5 : w8.cell? ⟨gd, 5, none⟩ = some (.int .i64 y.pw.sw) := k8.cell 5
          have c6 : w8.cell? ⟨gd, 6, none⟩ = some (.int .i64 y.pw.idle) := k8.cell 6
          have c7 : w8.cell? ⟨gd, 7, none⟩ = some (.int .i64 y.pw.change) := k8.cell 7
          have c8 : w8.cell? ⟨gd, 8, none⟩ = some (.int .i64 y.pw.quant) := k8.cell 8
          have c9 : w8.cell? ⟨gd, 9, none⟩ = some (.int .i64 y.pw.slow) := k8.cell 9
          have c10 : w8.cell? ⟨gd, 10, none⟩ = some (.int .i64 y.pw.ppm) := k8.cell 10
          have c11 : w8.cell? ⟨gd, 11, none⟩ = some (.slice y.shed.down.A y.shed.down.l.length y.shed.down.c) := k8.cell 11
          have c12 : w8.cell? ⟨gd, 12, none⟩ = some (.slice y.shed.up.A y.shed.up.l.length y.shed.up.c) := k8.cell 12
          go_wp2_with fail
          refine (encode_any hy8 HS.out).mono ?_
          rintro e w9 ⟨v9, z9, rfl, hz9, hown9, hb9⟩
          rw [HB.out] at hz9
          have hz0 : z9 = 0 := hz9
          subst hz0
          rw [HO.out] at hown9
          obtain ⟨A9, k9, rfl, hs9, -⟩ := SlB.of_own hown9
          have hB9 := hB8.trans (hb9.mono hB8.size)
          rw [hln] at hs9
          have hc1 := bytes_str hs9
          have hc2 := bytes_str (h.keep hB9)
          clear hz9 hown9 c0 c1 c2 c3 c4 c5 c6 c7 c8 c9 c10 c11 c12 ld
          go_wp2_with fail
          refine (works_any _).mono ?_
          rintro e w10 ⟨rfl, hb10⟩
          go_wp2_with fail
          go_ret
          exact ⟨rfl, hB9.trans (hb10.mono hB9.size)⟩
        · have hz9 : (z' != 0) = true := by simpa using hzz
          clear H0 hzz
          go_wp2_with fail
          refine (works_any _).mono ?_
          rintro e w10 ⟨rfl, hb10⟩
          go_wp2_with fail
          go_ret
          exact ⟨rfl, hB8.trans (hb10.mono hB8.size)⟩
end Go.Proofs.YtahjnonkhbpnpaaGreat
