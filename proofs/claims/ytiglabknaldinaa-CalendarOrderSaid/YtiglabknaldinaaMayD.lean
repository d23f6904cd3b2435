/- The document's May: Power and is return something. Printed by wip/gen_may2.py. -/
import Derived.Test.YtiglabknaldinaaMayC
namespace Go.Proofs.Ytiglabknaldinaa
open Go.RowKit
set_option maxRecDepth 100000 in
set_option maxHeartbeats 12800000 in
theorem power_any {w : World} {x : Pw} (hx : rdPw.ok w x) : Calls Try.prog 26 #[.agg #[.slice x.levels.A x.levels.l.length x.levels.c, .slice x.naps.A x.naps.l.length x.naps.c, .int .i64 x.sw, .int .i64 x.idle, .int .i64 x.change, .int .i64 x.quant, .int .i64 x.slow, .int .i64 x.ppm]] w (TupP w) := by
  have n0 := hx.1.1.len
  have n1 := hx.2.1.1.len
  have hb1 := (Below.refl w.heap.size w).alloc (Nat.le_refl _) (.cells #[.slice x.levels.A x.levels.l.length x.levels.c, .slice x.naps.A x.naps.l.length x.naps.c, .int .i64 x.sw, .int .i64 x.idle, .int .i64 x.change, .int .i64 x.quant, .int .i64 x.slow, .int .i64 x.ppm] 28)
  have k1 := Blk.new w 28 #[.slice x.levels.A x.levels.l.length x.levels.c, .slice x.naps.A x.naps.l.length x.naps.c, .int .i64 x.sw, .int .i64 x.idle, .int .i64 x.change, .int .i64 x.quant, .int .i64 x.slow, .int .i64 x.ppm]
  go_enter Try.func26, Try.ntmps26
  go_upto_region 1 with fail
  generalize w.alloc (.cells #[.slice x.levels.A x.levels.l.length x.levels.c, .slice x.naps.A x.naps.l.length x.naps.c, .int .i64 x.sw, .int .i64 x.idle, .int .i64 x.change, .int .i64 x.quant, .int .i64 x.slow, .int .i64 x.ppm] 28) = w1 at hb1 k1 ⊢
  obtain ⟨gx, hgx⟩ : ∃ gx, gx = w.heap.size := ⟨_, rfl⟩
  rw [← hgx] at k1 ⊢
  clear hgx
  have lx := k1.lt
  have c0 : w1.cell? ⟨gx, 0, none⟩ = some (.slice x.levels.A x.levels.l.length x.levels.c) := k1.cell 0
  by_cases q1 : (x.levels.l.length : Int) < 1
  · have q1' : decide ((x.levels.l.length : Int) < 1) = true := decide_eq_true q1
    clear q1
    go_wp2_with fail
    go_ret2
    exact TupP.mk _ _ rfl (hb1)
  · have q1' : decide ((x.levels.l.length : Int) < 1) = false := by simpa using q1
    clear q1
    by_cases q2 : (6 : Int) < x.levels.l.length
    · have q2' : decide ((6 : Int) < x.levels.l.length) = true := decide_eq_true q2
      clear q2
      go_wp2_with fail
      go_ret2
      exact TupP.mk _ _ rfl (hb1)
    · have q2' : decide ((6 : Int) < x.levels.l.length) = false := by simpa using q2
      clear q2
      go_wp2_with fail
      go_loopw [5, 6] (fun i _ wr => ∃ (k : Nat), k ≤ x.levels.l.length ∧ i = .int .i64 (k : Int) ∧ Below w1.heap.size w1 wr) (fun i _ _ => x.levels.l.length - (intOf i).toNat)
      case atStart => exact ⟨0, Nat.zero_le _, rfl, Below.refl _ _⟩
      case round =>
        clear c0 lx
        obtain ⟨k, hk, rfl, hbw⟩ := hrel
        obtain ⟨wa, hwa⟩ : ∃ w : World, w = wr := ⟨_, rfl⟩
        subst hwa
        have ka := k1.keep hbw
        have hBa := hb1.trans (hbw.mono hb1.size)
        have lx := ka.lt
        by_cases hlt : k < x.levels.l.length
        · have _d := True.intro
          have c0 : wa.cell? ⟨gx, 0, none⟩ = some (.slice x.levels.A x.levels.l.length x.levels.c) := ka.cell 0
          obtain ⟨sb, so, hA, hsb, hsc⟩ := (rdLvs.keep hx.1 hBa).1.at_ Lv0 hlt
          have s0 : wa.cell? ⟨sb, so + k * 2, none⟩ = some (.int .i64 (atD Lv0 x.levels.l k).freq) := hsc 0 _ rfl
          have s1 : wa.cell? ⟨sb, so + k * 2 + 1, none⟩ = some (.int .i64 (atD Lv0 x.levels.l k).power) := hsc 1 _ rfl
          have HA := Lib.hid hA
          rw [hA] at c0
          clear hA hsc
          generalize atD Lv0 x.levels.l k = y at s0 s1
          have ba := (Below.refl wa.heap.size wa).alloc (Nat.le_refl _) (.cells #[.int .i64 y.freq, .int .i64 y.power] 100)
          have kb := Blk.new wa 100 #[.int .i64 y.freq, .int .i64 y.power]
          have kx := ka.keep ba
          go_upto_region 8 with fail
          generalize wa.alloc (.cells #[.int .i64 y.freq, .int .i64 y.power] 100) = wb at ba kb kx ⊢
          obtain ⟨gy, hgy⟩ : ∃ gy, gy = wa.heap.size := ⟨_, rfl⟩
          rw [← hgy] at kb ⊢
          clear hgy
          have hbw2 := hbw.trans (ba.mono hbw.size)
          have hBb := hb1.trans (hbw2.mono hb1.size)
          clear s0 s1 c0 lx
          have lx := kx.lt
          have ly := kb.lt
          have y0 : wb.cell? ⟨gy, 0, none⟩ = some (.int .i64 y.freq) := kb.cell 0
          have y1 : wb.cell? ⟨gy, 1, none⟩ = some (.int .i64 y.power) := kb.cell 1
          have c0 : wb.cell? ⟨gx, 0, none⟩ = some (.slice (some ⟨sb, so, none⟩) x.levels.l.length x.levels.c) := by rw [← HA.out]; exact kx.cell 0
          go_wp2_with fail
          refine (out_any _ _ _ _).mono ?_
          rintro e _ ⟨b, rfl, rfl, -⟩
          cases b with
          | true =>
            go_wp2_with fail
            go_ret2
            exact TupP.mk _ _ rfl (hBb)
          | false =>
            go_wp2_with fail
            refine (out_any _ _ _ _).mono ?_
            rintro e _ ⟨b, rfl, rfl, -⟩
            cases b with
            | true =>
              go_wp2_with fail
              go_ret2
              exact TupP.mk _ _ rfl (hBb)
            | false =>
              cases k with
              | zero =>
                go_wp2_with fail
                go_quiet (fail)
                rename_i nq
                go_wp2_with fail
                exact ⟨⟨1, by omega, by go_num, below_drewN hbw2 nq⟩, by simp [intOf]; omega⟩
              | succ m =>
                obtain ⟨sb2, so2, hA2, hsb2, hsc2⟩ := (rdLvs.keep hx.1 hBb).1.at_ Lv0 (k := m) (by omega)
                rw [HA.out] at hA2
                cases hA2
                have s0 : wb.cell? ⟨sb, so + m * 2, none⟩ = some (.int .i64 (atD Lv0 x.levels.l m).freq) := hsc2 0 _ rfl
                have s1 : wb.cell? ⟨sb, so + m * 2 + 1, none⟩ = some (.int .i64 (atD Lv0 x.levels.l m).power) := hsc2 1 _ rfl
                clear hsc2
                generalize atD Lv0 x.levels.l m = p at s0 s1
                have hw1 : IntKind.i64.wrap (m : Int) = (m : Int) := IntWalk.i64_in _ (by omega)
                have hw2 : wrap64 (m : Int) = (m : Int) := by unfold wrap64; omega
                have hm1 : (0 : Int) ≤ m := by omega
                have hm2 : (m : Int) < x.levels.l.length := by omega
                have hm3 : decide (0 < (m : Int) + 1) = true := decide_eq_true (by omega)
                by_cases qa : y.freq ≤ p.freq
                · have qa' : decide (y.freq ≤ p.freq) = true := decide_eq_true qa
                  clear qa
                  go_wp2_with fail
                  go_quiet (fail)
                  rename_i nq
                  go_wp2_with fail
                  go_ret2
                  exact TupP.mk _ _ rfl (below_drewN hBb nq)
                · have qa' : decide (y.freq ≤ p.freq) = false := by simpa using qa
                  clear qa
                  have hC : ∃ b : Bool, decide (wrap64 (y.power * p.freq) < wrap64 (p.power * y.freq)) = b := ⟨_, rfl⟩
                  obtain ⟨b, hC⟩ := hC
                  go_wp2_with fail
                  go_quiet (fail)
                  rename_i nq
                  cases b with
                  | true =>
                    go_wp2_with fail
                    go_ret2
                    exact TupP.mk _ _ rfl (below_drewN hBb nq)
                  | false =>
                    go_wp2_with fail
                    exact ⟨⟨m + 1 + 1, by omega, by go_num, below_drewN hbw2 nq⟩, by simp [intOf]; omega⟩
        · obtain rfl : k = x.levels.l.length := by omega
          have c1 : wa.cell? ⟨gx, 1, none⟩ = some (.slice x.naps.A x.naps.l.length x.naps.c) := ka.cell 1
          by_cases q3 : (4 : Int) < x.naps.l.length
          · have q3' : decide ((4 : Int) < x.naps.l.length) = true := decide_eq_true q3
            clear q3
            go_wp2_with fail
            go_ret2
            exact TupP.mk _ _ rfl (hBa)
          · have q3' : decide ((4 : Int) < x.naps.l.length) = false := by simpa using q3
            clear q3
            go_wp2_with fail
            obtain ⟨wo, hwo⟩ : ∃ wo : World, wo = wa := ⟨_, rfl⟩
            go_loopw [7] (fun i wr => ∃ (k : Nat), k ≤ x.naps.l.length ∧ i = .int .i64 (k : Int) ∧ wo = wr) (fun i _ => x.naps.l.length - (intOf i).toNat)
            case atStart => exact ⟨0, Nat.zero_le _, rfl, hwo⟩
            case round =>
              subst hwo
              obtain ⟨k, hk, rfl, rfl⟩ := hrel
              by_cases hlt : k < x.naps.l.length
              · have _d := True.intro
                obtain ⟨sb, so, hA, hsb, hsc⟩ := (rdNps.keep hx.2.1 hBa).1.at_ Np0 hlt
                have s0 : wo.cell? ⟨sb, so + k * 3, none⟩ = some (.int .i64 (atD Np0 x.naps.l k).power) := hsc 0 _ rfl
                have s1 : wo.cell? ⟨sb, so + k * 3 + 1, none⟩ = some (.int .i64 (atD Np0 x.naps.l k).enter) := hsc 1 _ rfl
                have s2 : wo.cell? ⟨sb, so + k * 3 + 2, none⟩ = some (.int .i64 (atD Np0 x.naps.l k).wake) := hsc 2 _ rfl
                rw [hA] at c1
                clear hA hsc
                generalize atD Np0 x.naps.l k = y at s0 s1 s2
                go_wp2_with fail
                refine (out_any _ _ _ _).mono ?_
                rintro e _ ⟨b, rfl, rfl, -⟩
                cases b with
                | true =>
                  go_wp2_with fail
                  go_ret2
                  exact TupP.mk _ _ rfl (hBa)
                | false =>
                  go_wp2_with fail
                  refine (out_any _ _ _ _).mono ?_
                  rintro e _ ⟨b, rfl, rfl, -⟩
                  cases b with
                  | true =>
                    go_wp2_with fail
                    go_ret2
                    exact TupP.mk _ _ rfl (hBa)
                  | false =>
                    go_wp2_with fail
                    refine (out_any _ _ _ _).mono ?_
                    rintro e _ ⟨b, rfl, rfl, -⟩
                    cases b with
                    | true =>
                      go_wp2_with fail
                      go_ret2
                      exact TupP.mk _ _ rfl (hBa)
                    | false =>
                      go_wp2_with fail
                      exact ⟨⟨k + 1, by omega, by go_num, by first | trivial | rfl⟩, by simp [intOf]; omega⟩
              · obtain rfl : k = x.naps.l.length := by omega
                have c2 : wo.cell? ⟨gx, 2, none⟩ = some (.int .i64 x.sw) := ka.cell 2
                have c3 : wo.cell? ⟨gx, 3, none⟩ = some (.int .i64 x.idle) := ka.cell 3
                have c4 : wo.cell? ⟨gx, 4, none⟩ = some (.int .i64 x.change) := ka.cell 4
                have c5 : wo.cell? ⟨gx, 5, none⟩ = some (.int .i64 x.quant) := ka.cell 5
                have c6 : wo.cell? ⟨gx, 6, none⟩ = some (.int .i64 x.slow) := ka.cell 6
                have c7 : wo.cell? ⟨gx, 7, none⟩ = some (.int .i64 x.ppm) := ka.cell 7
                go_wp2_with fail
                refine (out_any _ _ _ _).mono ?_
                rintro e _ ⟨b, rfl, rfl, -⟩
                cases b with
                | true =>
                  go_wp2_with fail
                  go_ret2
                  exact TupP.mk _ _ rfl (hBa)
                | false =>
                  go_wp2_with fail
                  refine (out_any _ _ _ _).mono ?_
                  rintro e _ ⟨b, rfl, rfl, -⟩
                  cases b with
                  | true =>
                    go_wp2_with fail
                    go_ret2
                    exact TupP.mk _ _ rfl (hBa)
                  | false =>
                    go_wp2_with fail
                    refine (out_any _ _ _ _).mono ?_
                    rintro e _ ⟨b, rfl, rfl, -⟩
                    cases b with
                    | true =>
                      go_wp2_with fail
                      go_ret2
                      exact TupP.mk _ _ rfl (hBa)
                    | false =>
                      go_wp2_with fail
                      refine (out_any _ _ _ _).mono ?_
                      rintro e _ ⟨b, rfl, rfl, -⟩
                      cases b with
                      | true =>
                        go_wp2_with fail
                        go_ret2
                        exact TupP.mk _ _ rfl (hBa)
                      | false =>
                        go_wp2_with fail
                        refine (out_any _ _ _ _).mono ?_
                        rintro e _ ⟨b, rfl, rfl, -⟩
                        cases b with
                        | true =>
                          go_wp2_with fail
                          go_ret2
                          exact TupP.mk _ _ rfl (hBa)
                        | false =>
                          go_wp2_with fail
                          refine (out_any _ _ _ _).mono ?_
                          rintro e _ ⟨b, rfl, rfl, -⟩
                          cases b with
                          | true =>
                            go_wp2_with fail
                            go_ret2
                            exact TupP.mk _ _ rfl (hBa)
                          | false =>
                            go_wp2_with fail
                            go_ret2
                            exact TupP.mk _ _ rfl (hBa)
def IsP (x : Cf) (p q : Int) (w : World) (e : Ending) (w' : World) : Prop := ∃ r : Bool, e = .returned (.bool r) ∧ (r = true → 0 ≤ p ∧ p < x.parts.l.length ∧ 0 ≤ q ∧ q < (atD Pt0 x.parts.l p.toNat).ports.l.length) ∧ Below w.heap.size w w'
theorem IsP.mk {x : Cf} {p q : Int} {w w' : World} {e : Ending} (r : Bool) (h1 : e = .returned (.bool r)) (h2 : r = true → 0 ≤ p ∧ p < x.parts.l.length ∧ 0 ≤ q ∧ q < (atD Pt0 x.parts.l p.toNat).ports.l.length) (h3 : Below w.heap.size w w') : IsP x p q w e w' := ⟨r, h1, h2, h3⟩
set_option maxRecDepth 100000 in
set_option maxHeartbeats 12800000 in
theorem is_any {w : World} {x : Cf} (hx : rdCf.ok w x) (p q : Int) : Calls Try.prog 33 #[.agg #[.slice x.parts.A x.parts.l.length x.parts.c, .slice x.chans.A x.chans.l.length x.chans.c, .slice x.modes.A x.modes.l.length x.modes.c, .slice x.pw.levels.A x.pw.levels.l.length x.pw.levels.c, .slice x.pw.naps.A x.pw.naps.l.length x.pw.naps.c, .int .i64 x.pw.sw, .int .i64 x.pw.idle, .int .i64 x.pw.change, .int .i64 x.pw.quant, .int .i64 x.pw.slow, .int .i64 x.pw.ppm, .slice x.shed.down.A x.shed.down.l.length x.shed.down.c, .slice x.shed.up.A x.shed.up.l.length x.shed.up.c], .agg #[.int .i64 p, .int .i64 q]] w (IsP x p q w) := by
  have n0 := hx.1.1.len
  have hb1 := (Below.refl w.heap.size w).alloc (Nat.le_refl _) (.cells #[.slice x.parts.A x.parts.l.length x.parts.c, .slice x.chans.A x.chans.l.length x.chans.c, .slice x.modes.A x.modes.l.length x.modes.c, .slice x.pw.levels.A x.pw.levels.l.length x.pw.levels.c, .slice x.pw.naps.A x.pw.naps.l.length x.pw.naps.c, .int .i64 x.pw.sw, .int .i64 x.pw.idle, .int .i64 x.pw.change, .int .i64 x.pw.quant, .int .i64 x.pw.slow, .int .i64 x.pw.ppm, .slice x.shed.down.A x.shed.down.l.length x.shed.down.c, .slice x.shed.up.A x.shed.up.l.length x.shed.up.c] 33)
  have hb2 := hb1.alloc hb1.size (.cells #[.int .i64 p, .int .i64 q] 105)
  have k1 := (Blk.new w 33 #[.slice x.parts.A x.parts.l.length x.parts.c, .slice x.chans.A x.chans.l.length x.chans.c, .slice x.modes.A x.modes.l.length x.modes.c, .slice x.pw.levels.A x.pw.levels.l.length x.pw.levels.c, .slice x.pw.naps.A x.pw.naps.l.length x.pw.naps.c, .int .i64 x.pw.sw, .int .i64 x.pw.idle, .int .i64 x.pw.change, .int .i64 x.pw.quant, .int .i64 x.pw.slow, .int .i64 x.pw.ppm, .slice x.shed.down.A x.shed.down.l.length x.shed.down.c, .slice x.shed.up.A x.shed.up.l.length x.shed.up.c]).alloc (.cells #[.int .i64 p, .int .i64 q] 105)
  have k2 := Blk.new (w.alloc (.cells #[.slice x.parts.A x.parts.l.length x.parts.c, .slice x.chans.A x.chans.l.length x.chans.c, .slice x.modes.A x.modes.l.length x.modes.c, .slice x.pw.levels.A x.pw.levels.l.length x.pw.levels.c, .slice x.pw.naps.A x.pw.naps.l.length x.pw.naps.c, .int .i64 x.pw.sw, .int .i64 x.pw.idle, .int .i64 x.pw.change, .int .i64 x.pw.quant, .int .i64 x.pw.slow, .int .i64 x.pw.ppm, .slice x.shed.down.A x.shed.down.l.length x.shed.down.c, .slice x.shed.up.A x.shed.up.l.length x.shed.up.c] 33)) 105 #[.int .i64 p, .int .i64 q]
  rw [World.size_alloc] at k2
  go_enter Try.func33, Try.ntmps33
  go_upto_region 1 with fail
  generalize (w.alloc (.cells #[.slice x.parts.A x.parts.l.length x.parts.c, .slice x.chans.A x.chans.l.length x.chans.c, .slice x.modes.A x.modes.l.length x.modes.c, .slice x.pw.levels.A x.pw.levels.l.length x.pw.levels.c, .slice x.pw.naps.A x.pw.naps.l.length x.pw.naps.c, .int .i64 x.pw.sw, .int .i64 x.pw.idle, .int .i64 x.pw.change, .int .i64 x.pw.quant, .int .i64 x.pw.slow, .int .i64 x.pw.ppm, .slice x.shed.down.A x.shed.down.l.length x.shed.down.c, .slice x.shed.up.A x.shed.up.l.length x.shed.up.c] 33)).alloc (.cells #[.int .i64 p, .int .i64 q] 105) = w1 at hb2 k1 k2 ⊢
  obtain ⟨gx, hgx⟩ : ∃ gx, gx = w.heap.size := ⟨_, rfl⟩
  rw [← hgx] at k1 k2 ⊢
  obtain ⟨gy, hgy⟩ : ∃ gy, gy = gx + 1 := ⟨_, rfl⟩
  rw [← hgy] at k2 ⊢
  clear hgx hgy hb1
  have lx := k1.lt
  have ly := k2.lt
  have c0 : w1.cell? ⟨gx, 0, none⟩ = some (.slice x.parts.A x.parts.l.length x.parts.c) := k1.cell 0
  have e0 : w1.cell? ⟨gy, 0, none⟩ = some (.int .i64 p) := k2.cell 0
  have e1 : w1.cell? ⟨gy, 1, none⟩ = some (.int .i64 q) := k2.cell 1
  by_cases q1 : 0 ≤ p
  rotate_left
  · have q1' : decide (0 ≤ p) = false := by simpa using q1
    clear q1
    go_quiet (fail)
    rename_i nq
    go_wp2_with fail
    go_ret
    exact IsP.mk false rfl (fun h => by cases h) (below_drewN hb2 nq)
  have q1' : decide (0 ≤ p) = true := decide_eq_true q1
  obtain ⟨pk, rfl⟩ := Int.eq_ofNat_of_zero_le q1
  by_cases q2 : (pk : Int) < x.parts.l.length
  rotate_left
  · have q2' : decide (pk < x.parts.l.length) = false := decide_eq_false (by omega)
    clear q2
    go_quiet (fail)
    rename_i nq
    go_wp2_with fail
    go_ret
    exact IsP.mk false rfl (fun h => by cases h) (below_drewN hb2 nq)
  have q2' : decide (pk < x.parts.l.length) = true := decide_eq_true (by omega)
  by_cases q3 : 0 ≤ q
  rotate_left
  · have q3' : decide (0 ≤ q) = false := by simpa using q3
    clear q3
    go_quiet (fail)
    rename_i nq
    go_wp2_with fail
    go_ret
    exact IsP.mk false rfl (fun h => by cases h) (below_drewN hb2 nq)
  have q3' : decide (0 ≤ q) = true := decide_eq_true q3
  obtain ⟨sb, so, hA, hsb, hsc⟩ := (rdPts.keep hx.1 hb2).1.at_ Pt0 (k := pk) (by omega)
  have s2 : w1.cell? ⟨sb, so + pk * 11 + 2, none⟩ = some (.slice (atD Pt0 x.parts.l pk).ports.A (atD Pt0 x.parts.l pk).ports.l.length (atD Pt0 x.parts.l pk).ports.c) := hsc 2 _ rfl
  rw [hA] at c0
  clear hA hsc
  obtain ⟨pt, hpt⟩ : ∃ pt, pt = atD Pt0 x.parts.l pk := ⟨_, rfl⟩
  rw [← hpt] at s2
  have HP := Lib.hid hpt
  clear hpt
  by_cases q4 : q < pt.ports.l.length
  · have q4' : decide (q < pt.ports.l.length) = true := decide_eq_true q4
    have HQ := Lib.hid q4
    have HQ3 := Lib.hid q3
    clear q4
    go_quiet (fail)
    rename_i nq
    go_wp2_with fail
    go_ret
    refine IsP.mk true rfl (fun _ => ⟨by omega, by omega, HQ3.out, ?_⟩) (below_drewN hb2 nq)
    rw [Int.toNat_natCast, ← HP.out]
    exact HQ.out
  · have q4' : decide (q < pt.ports.l.length) = false := by simpa using q4
    clear q4
    go_quiet (fail)
    rename_i nq
    go_wp2_with fail
    go_ret
    exact IsP.mk false rfl (fun h => by cases h) (below_drewN hb2 nq)
end Go.Proofs.Ytiglabknaldinaa
