/- The document's May: Mode returns something; where it says yes the mode is good. -/
import Derived.Test.YtiglabknaldinaaMayE
namespace Go.Proofs.Ytiglabknaldinaa
open Go.RowKit
/-- where the windows ahead of the j-th end. -/
def endW (l : List Wn) : Nat → Int
  | 0 => 0
  | j + 1 => (atD Wn0 l j).start + (atD Wn0 l j).len
/-- the j-th window lies in the frame, behind those ahead of it. -/
def WinG (F : Int) (np : Nat) (l : List Wn) (j : Nat) : Prop := endW l j ≤ (atD Wn0 l j).start ∧ (atD Wn0 l j).start ≤ F ∧ 1 ≤ (atD Wn0 l j).len ∧ (atD Wn0 l j).len ≤ F - (atD Wn0 l j).start ∧ 0 ≤ (atD Wn0 l j).part ∧ (atD Wn0 l j).part < np
def MdGood (y : Md) : Prop := 1 ≤ y.frame ∧ y.frame ≤ 1000000000 ∧ y.wins.l.length ≤ 16 ∧ ∃ np, ∀ j, j < y.wins.l.length → WinG y.frame np y.wins.l j
def ModeP (y : Md) (w : World) (e : Ending) (w' : World) : Prop := ∃ z : Int, e = .returned (.int .i64 z) ∧ (z = 0 → MdGood y) ∧ Below w.heap.size w w'
theorem ModeP.mk {y : Md} {w w' : World} {e : Ending} (z : Int) (h1 : e = .returned (.int .i64 z)) (h2 : z = 0 → MdGood y) (h3 : Below w.heap.size w w') : ModeP y w e w' := ⟨z, h1, h2, h3⟩
def Inv1 (F : Int) (np : Nat) (l : List Wn) (w0 : World) (e i : Value) (wr : World) : Prop := ∃ j : Nat, j ≤ l.length ∧ i = .int .i64 (j : Int) ∧ e = .int .i64 (endW l j) ∧ Below w0.heap.size w0 wr ∧ 0 ≤ endW l j ∧ endW l j ≤ 1000000000 ∧ ∀ m, m < j → WinG F np l m
set_option maxRecDepth 100000 in
set_option maxHeartbeats 12800000 in
theorem mode_any {w : World} {x : Cf} (hx : rdCf.ok w x) (hcap : ∀ j, j < x.parts.l.length → 1 ≤ (atD Pt0 x.parts.l j).cap ∧ (atD Pt0 x.parts.l j).cap ≤ 1000000000) {k : Nat} (hk : k < x.modes.l.length) : Calls Try.prog 28 #[.agg #[.slice x.parts.A x.parts.l.length x.parts.c, .slice x.chans.A x.chans.l.length x.chans.c, .slice x.modes.A x.modes.l.length x.modes.c, .slice x.pw.levels.A x.pw.levels.l.length x.pw.levels.c, .slice x.pw.naps.A x.pw.naps.l.length x.pw.naps.c, .int .i64 x.pw.sw, .int .i64 x.pw.idle, .int .i64 x.pw.change, .int .i64 x.pw.quant, .int .i64 x.pw.slow, .int .i64 x.pw.ppm, .slice x.shed.down.A x.shed.down.l.length x.shed.down.c, .slice x.shed.up.A x.shed.up.l.length x.shed.up.c], .int .i64 (k : Int)] w (ModeP (atD Md0 x.modes.l k) w) := by
  have n1 := hx.2.2.1.1.len
  have HCAP := Lib.hid hcap
  clear hcap
  have hb1 := (Below.refl w.heap.size w).alloc (Nat.le_refl _) (.cells #[.slice x.parts.A x.parts.l.length x.parts.c, .slice x.chans.A x.chans.l.length x.chans.c, .slice x.modes.A x.modes.l.length x.modes.c, .slice x.pw.levels.A x.pw.levels.l.length x.pw.levels.c, .slice x.pw.naps.A x.pw.naps.l.length x.pw.naps.c, .int .i64 x.pw.sw, .int .i64 x.pw.idle, .int .i64 x.pw.change, .int .i64 x.pw.quant, .int .i64 x.pw.slow, .int .i64 x.pw.ppm, .slice x.shed.down.A x.shed.down.l.length x.shed.down.c, .slice x.shed.up.A x.shed.up.l.length x.shed.up.c] 33)
  have k1 := Blk.new w 33 #[.slice x.parts.A x.parts.l.length x.parts.c, .slice x.chans.A x.chans.l.length x.chans.c, .slice x.modes.A x.modes.l.length x.modes.c, .slice x.pw.levels.A x.pw.levels.l.length x.pw.levels.c, .slice x.pw.naps.A x.pw.naps.l.length x.pw.naps.c, .int .i64 x.pw.sw, .int .i64 x.pw.idle, .int .i64 x.pw.change, .int .i64 x.pw.quant, .int .i64 x.pw.slow, .int .i64 x.pw.ppm, .slice x.shed.down.A x.shed.down.l.length x.shed.down.c, .slice x.shed.up.A x.shed.up.l.length x.shed.up.c]
  go_enter Try.func28, Try.ntmps28
  go_upto_region 1 with fail
  generalize w.alloc (.cells #[.slice x.parts.A x.parts.l.length x.parts.c, .slice x.chans.A x.chans.l.length x.chans.c, .slice x.modes.A x.modes.l.length x.modes.c, .slice x.pw.levels.A x.pw.levels.l.length x.pw.levels.c, .slice x.pw.naps.A x.pw.naps.l.length x.pw.naps.c, .int .i64 x.pw.sw, .int .i64 x.pw.idle, .int .i64 x.pw.change, .int .i64 x.pw.quant, .int .i64 x.pw.slow, .int .i64 x.pw.ppm, .slice x.shed.down.A x.shed.down.l.length x.shed.down.c, .slice x.shed.up.A x.shed.up.l.length x.shed.up.c] 33) = w1 at hb1 k1 ⊢
  obtain ⟨gx, hgx⟩ : ∃ gx, gx = w.heap.size := ⟨_, rfl⟩
  rw [← hgx] at k1 ⊢
  clear hgx
  have lx := k1.lt
  obtain ⟨sb, so, hA, hsb, hsc⟩ := (rdMds.keep hx.2.2.1 hb1).1.at_ Md0 hk
  have hY : ∀ W, Below w.heap.size w W → (atD Md0 x.modes.l k).ok W := fun W hW => (rdMds.keep hx.2.2.1 hW).2 _ (atD_mem (d := Md0) hk)
  have s0 : w1.cell? ⟨sb, so + k * 2, none⟩ = some (.int .i64 (atD Md0 x.modes.l k).frame) := hsc 0 _ rfl
  have s1 : w1.cell? ⟨sb, so + k * 2 + 1, none⟩ = some (.slice (atD Md0 x.modes.l k).wins.A (atD Md0 x.modes.l k).wins.l.length (atD Md0 x.modes.l k).wins.c) := hsc 1 _ rfl
  have c2 : w1.cell? ⟨gx, 2, none⟩ = some (.slice (some ⟨sb, so, none⟩) x.modes.l.length x.modes.c) := by rw [← hA]; exact k1.cell 2
  clear hA hsc
  obtain ⟨y, hy⟩ : ∃ y, y = atD Md0 x.modes.l k := ⟨_, rfl⟩
  rw [← hy] at s0 s1 hY
  have HYE := Lib.hid hy
  clear hy
  have q1' : decide ((k : Int) < 0) = false := decide_eq_false (by omega)
  have q2' : decide (x.modes.l.length ≤ k) = false := decide_eq_false (by omega)
  have ba := (Below.refl w1.heap.size w1).alloc (Nat.le_refl _) (.cells #[.int .i64 y.frame, .slice y.wins.A y.wins.l.length y.wins.c] 49)
  have kb := Blk.new w1 49 #[.int .i64 y.frame, .slice y.wins.A y.wins.l.length y.wins.c]
  have kx := k1.keep ba
  go_upto_region 4 with fail
  generalize w1.alloc (.cells #[.int .i64 y.frame, .slice y.wins.A y.wins.l.length y.wins.c] 49) = wb at ba kb kx ⊢
  obtain ⟨gy, hgy⟩ : ∃ gy, gy = w1.heap.size := ⟨_, rfl⟩
  rw [← hgy] at kb ⊢
  clear hgy
  have hB := hb1.trans (ba.mono hb1.size)
  clear s0 s1 c2 lx q1' q2' k1 hsb
  have lx := kx.lt
  have ly := kb.lt
  have y0 : wb.cell? ⟨gy, 0, none⟩ = some (.int .i64 y.frame) := kb.cell 0
  have y1 : wb.cell? ⟨gy, 1, none⟩ = some (.slice y.wins.A y.wins.l.length y.wins.c) := kb.cell 1
  go_wp2_with fail
  refine (out_any _ _ _ _).mono ?_
  rintro e _ ⟨b, rfl, rfl, hF⟩
  cases b with
  | true =>
    go_wp2_with fail
    go_ret
    exact ModeP.mk _ rfl (fun h => by cases h) hB
  | false =>
    obtain ⟨hF1, hF2⟩ := hF rfl
    clear hF
    by_cases q3 : (16 : Int) < y.wins.l.length
    · have q3' : decide ((16 : Int) < y.wins.l.length) = true := decide_eq_true q3
      clear q3
      go_wp2_with fail
      go_ret
      exact ModeP.mk _ rfl (fun h => by cases h) hB
    · have q3' : decide ((16 : Int) < y.wins.l.length) = false := by simpa using q3
      have q4 : y.wins.l.length ≤ 16 := by omega
      clear q3
      go_wp2_with fail
      go_loopw [6, 7, 8] (fun e i _ wr => Inv1 y.frame x.parts.l.length y.wins.l wb e i wr) (fun _ i _ _ => y.wins.l.length - (intOf i).toNat)
      case atStart => exact ⟨0, Nat.zero_le _, rfl, rfl, Below.refl _ _, Int.le_refl _, (by decide : (0 : Int) ≤ 1000000000), fun m hm => absurd hm (Nat.not_lt_zero m)⟩
      case round =>
        clear y0 y1 lx ly q3'
        obtain ⟨j, hj, rfl, rfl, hbw, he0, he1, hG⟩ := hrel
        have HG := Lib.hid hG
        clear hG
        obtain ⟨wa, hwa⟩ : ∃ w : World, w = wr := ⟨_, rfl⟩
        subst hwa
        have hBa := hB.trans (hbw.mono hB.size)
        have ka := kx.keep hbw
        have kc := kb.keep hbw
        have lx := ka.lt
        have ly := kc.lt
        have y0 : wa.cell? ⟨gy, 0, none⟩ = some (.int .i64 y.frame) := kc.cell 0
        by_cases hlt : j < y.wins.l.length
        · have _d := True.intro
          have HE : Hid (endW y.wins.l j = endW y.wins.l j) := Lib.hid rfl
          obtain ⟨sb, so, hA, hsb, hsc⟩ := (hY wa hBa).2.1.at_ Wn0 hlt
          have s0 : wa.cell? ⟨sb, so + j * 3, none⟩ = some (.int .i64 (atD Wn0 y.wins.l j).part) := hsc 0 _ rfl
          have s1 : wa.cell? ⟨sb, so + j * 3 + 1, none⟩ = some (.int .i64 (atD Wn0 y.wins.l j).start) := hsc 1 _ rfl
          have s2 : wa.cell? ⟨sb, so + j * 3 + 2, none⟩ = some (.int .i64 (atD Wn0 y.wins.l j).len) := hsc 2 _ rfl
          have y1 : wa.cell? ⟨gy, 1, none⟩ = some (.slice (some ⟨sb, so, none⟩) y.wins.l.length y.wins.c) := by rw [← hA]; exact kc.cell 1
          clear hA hsc
          have HS : Hid (endW y.wins.l (j + 1) = (atD Wn0 y.wins.l j).start + (atD Wn0 y.wins.l j).len) := Lib.hid rfl
          have HW : Hid (∀ np, WinG y.frame np y.wins.l j ↔ (endW y.wins.l j ≤ (atD Wn0 y.wins.l j).start ∧ (atD Wn0 y.wins.l j).start ≤ y.frame ∧ 1 ≤ (atD Wn0 y.wins.l j).len ∧ (atD Wn0 y.wins.l j).len ≤ y.frame - (atD Wn0 y.wins.l j).start ∧ 0 ≤ (atD Wn0 y.wins.l j).part ∧ (atD Wn0 y.wins.l j).part < np)) := fun np => Iff.rfl
          generalize atD Wn0 y.wins.l j = z at s0 s1 s2 HS HW
          generalize endW y.wins.l j = en at he0 he1 HW ⊢
          have b8 := (Below.refl wa.heap.size wa).alloc (Nat.le_refl _) (.cells #[.int .i64 z.part, .int .i64 z.start, .int .i64 z.len] 55)
          have k8 := Blk.new wa 55 #[.int .i64 z.part, .int .i64 z.start, .int .i64 z.len]
          have kx8 := ka.keep b8
          have ky8 := kc.keep b8
          go_upto_region 11 with fail
          generalize wa.alloc (.cells #[.int .i64 z.part, .int .i64 z.start, .int .i64 z.len] 55) = w8 at b8 k8 kx8 ky8 ⊢
          obtain ⟨gz, hgz⟩ : ∃ gz, gz = wa.heap.size := ⟨_, rfl⟩
          rw [← hgz] at k8 ⊢
          clear hgz
          have hb8 := hbw.trans (b8.mono hbw.size)
          have hB8 := hB.trans (hb8.mono hB.size)
          clear s0 s1 s2 y0 y1 lx ly
          have lx := kx8.lt
          have ly := ky8.lt
          have lz := k8.lt
          have c0 : w8.cell? ⟨gx, 0, none⟩ = some (.slice x.parts.A x.parts.l.length x.parts.c) := kx8.cell 0
          have y0 : w8.cell? ⟨gy, 0, none⟩ = some (.int .i64 y.frame) := ky8.cell 0
          have z0 : w8.cell? ⟨gz, 0, none⟩ = some (.int .i64 z.part) := k8.cell 0
          have z1 : w8.cell? ⟨gz, 1, none⟩ = some (.int .i64 z.start) := k8.cell 1
          have z2 : w8.cell? ⟨gz, 2, none⟩ = some (.int .i64 z.len) := k8.cell 2
          by_cases r1 : z.part < 0
          · have r1' : decide (z.part < 0) = true := decide_eq_true r1
            clear r1
            go_wp2_with fail
            go_ret
            exact ModeP.mk _ rfl (fun h => by cases h) hB8
          have r1' : decide (z.part < 0) = false := decide_eq_false r1
          by_cases r2 : (x.parts.l.length : Int) ≤ z.part
          · have r2' : decide ((x.parts.l.length : Int) ≤ z.part) = true := decide_eq_true r2
            clear r1 r2
            go_wp2_with fail
            go_ret
            exact ModeP.mk _ rfl (fun h => by cases h) hB8
          have r2' : decide ((x.parts.l.length : Int) ≤ z.part) = false := decide_eq_false r2
          by_cases r3 : z.start < en
          · have r3' : decide (z.start < en) = true := decide_eq_true r3
            clear r1 r2 r3
            go_wp2_with fail
            go_ret
            exact ModeP.mk _ rfl (fun h => by cases h) hB8
          have r3' : decide (z.start < en) = false := decide_eq_false r3
          by_cases r4 : y.frame < z.start
          · have r4' : decide (y.frame < z.start) = true := decide_eq_true r4
            clear r1 r2 r3 r4
            go_wp2_with fail
            go_ret
            exact ModeP.mk _ rfl (fun h => by cases h) hB8
          have r4' : decide (y.frame < z.start) = false := decide_eq_false r4
          by_cases r5 : z.len < 1
          · have r5' : decide (z.len < 1) = true := decide_eq_true r5
            clear r1 r2 r3 r4 r5
            go_wp2_with fail
            go_ret
            exact ModeP.mk _ rfl (fun h => by cases h) hB8
          have r5' : decide (z.len < 1) = false := decide_eq_false r5
          have hw1 : IntKind.i64.wrap (y.frame - z.start) = y.frame - z.start := IntWalk.i64_in _ (by omega)
          have hw2 : wrap64 (y.frame - z.start) = y.frame - z.start := by unfold wrap64; omega
          by_cases r6 : y.frame - z.start < z.len
          · have r6' : decide (y.frame - z.start < z.len) = true := decide_eq_true r6
            clear r1 r2 r3 r4 r5 r6
            go_wp2_with fail
            go_ret
            exact ModeP.mk _ rfl (fun h => by cases h) hB8
          have r6' : decide (y.frame - z.start < z.len) = false := decide_eq_false r6
          have hw3 : IntKind.i64.wrap (z.start + z.len) = z.start + z.len := IntWalk.i64_in _ (by omega)
          have hw4 : wrap64 (z.start + z.len) = z.start + z.len := by unfold wrap64; omega
          have HN : Hid (WinG y.frame x.parts.l.length y.wins.l j ∧ 0 ≤ z.start + z.len ∧ z.start + z.len ≤ 1000000000) := Lib.hid ⟨(HW.out _).2 ⟨by omega, by omega, by omega, by omega, by omega, by omega⟩, by omega, by omega⟩
          clear r1 r2 r3 r4 r5 r6
          go_wp2_with fail
          exact ⟨⟨j + 1, by omega, by go_num, by rw [HS.out], hb8, by rw [HS.out]; exact HN.out.2.1, by rw [HS.out]; exact HN.out.2.2, fun m hm => by
            by_cases e : m = j
            · subst e; exact HN.out.1
            · exact HG.out m (by omega)⟩, by simp [intOf]; omega⟩
        · obtain rfl : j = y.wins.l.length := by omega
          have y1 : wa.cell? ⟨gy, 1, none⟩ = some (.slice y.wins.A y.wins.l.length y.wins.c) := kc.cell 1
          have HGD : Hid (MdGood y) := Lib.hid ⟨hF1, hF2, q4, _, HG.out⟩
          go_wp2_with fail
          obtain ⟨wo, hwo⟩ : ∃ wo : World, wo = wa := ⟨_, rfl⟩
          go_loopw [9] (fun i wr => ∃ (j : Nat), j ≤ y.wins.l.length ∧ i = .int .i64 (j : Int) ∧ Below wo.heap.size wo wr) (fun i _ => y.wins.l.length - (intOf i).toNat)
          case atStart => exact ⟨0, Nat.zero_le _, rfl, by rw [hwo]; exact Below.refl _ _⟩
          case round =>
            subst hwo
            clear y0 y1 lx ly
            obtain ⟨j, hj, rfl, hbv⟩ := hrel
            obtain ⟨wv, hwv⟩ : ∃ w : World, w = wr := ⟨_, rfl⟩
            subst hwv
            have hBv := hBa.trans (hbv.mono hBa.size)
            have kv := ka.keep hbv
            have kw := kc.keep hbv
            have lx := kv.lt
            have ly := kw.lt
            by_cases hlt : j < y.wins.l.length
            · have _d := True.intro
              obtain ⟨g1, g2, g3, g4, g5, g6⟩ := HG.out j hlt
              obtain ⟨p, hp⟩ := Int.eq_ofNat_of_zero_le g5
              rw [hp] at g6
              have hpl : p < x.parts.l.length := by omega
              obtain ⟨hc1, hc2⟩ := HCAP.out p hpl
              obtain ⟨sb, so, hA, hsb, hsc⟩ := (hY wv hBv).2.1.at_ Wn0 hlt
              have s0 : wv.cell? ⟨sb, so + j * 3, none⟩ = some (.int .i64 (p : Int)) := by rw [← hp]; exact hsc 0 _ rfl
              have s2 : wv.cell? ⟨sb, so + j * 3 + 2, none⟩ = some (.int .i64 (atD Wn0 y.wins.l j).len) := hsc 2 _ rfl
              have y1 : wv.cell? ⟨gy, 1, none⟩ = some (.slice (some ⟨sb, so, none⟩) y.wins.l.length y.wins.c) := by rw [← hA]; exact kw.cell 1
              clear hA hsc g1 g2 g3 g4 g5 g6 hp
              generalize (atD Wn0 y.wins.l j).len = zl at s2
              obtain ⟨sp, sq, hPA, hsp, hspc⟩ := (rdPts.keep hx.1 hBv).1.at_ Pt0 hpl
              have t7 : wv.cell? ⟨sp, sq + p * 11 + 7, none⟩ = some (.int .i64 (atD Pt0 x.parts.l p).cap) := hspc 7 _ rfl
              have c0 : wv.cell? ⟨gx, 0, none⟩ = some (.slice (some ⟨sp, sq, none⟩) x.parts.l.length x.parts.c) := by rw [← hPA]; exact kv.cell 0
              clear hPA hspc
              generalize (atD Pt0 x.parts.l p).cap = cap at t7 hc1 hc2
              have c3 : wv.cell? ⟨gx, 3, none⟩ = some (.slice x.pw.levels.A x.pw.levels.l.length x.pw.levels.c) := kv.cell 3
              have c4 : wv.cell? ⟨gx, 4, none⟩ = some (.slice x.pw.naps.A x.pw.naps.l.length x.pw.naps.c) := kv.cell 4
              have c5 : wv.cell? ⟨gx, 5, none⟩ = some (.int .i64 x.pw.sw) := kv.cell 5
              have c6 : wv.cell? ⟨gx, 6, none⟩ = some (.int .i64 x.pw.idle) := kv.cell 6
              have c7 : wv.cell? ⟨gx, 7, none⟩ = some (.int .i64 x.pw.change) := kv.cell 7
              have c8 : wv.cell? ⟨gx, 8, none⟩ = some (.int .i64 x.pw.quant) := kv.cell 8
              have c9 : wv.cell? ⟨gx, 9, none⟩ = some (.int .i64 x.pw.slow) := kv.cell 9
              have c10 : wv.cell? ⟨gx, 10, none⟩ = some (.int .i64 x.pw.ppm) := kv.cell 10
              go_upto_region 17 with fail
              refine wp_region_fen (fun _ => False) [(19, 0)] (by kernel_rfl) (by kernel_rfl) ?_
              simp only [wpSegsF, List.take, List.drop]
              repeat (go_big_quiet_step (fail))
              refine wpQuiet_nil (wpHeadF_want rfl (fun K' hK' => ?_))
              go_wp2_with fail
              refine (fits_any (w := wv.drew) (rdPw.keep hx.2.2.2.1 hBv.drew) hc1 hc2 zl).mono ?_
              rintro e w2 ⟨r1, rfl, hb2⟩
              have hbv2 := hbv.trans (((Below.refl wv.heap.size wv).drew.trans hb2).mono hbv.size)
              have hBv2 := hBa.trans (hbv2.mono hBa.size)
              refine hK' _ _ rfl (fr_graft (Fr.of_below ((Below.refl wv.heap.size wv).drew.trans hb2) _)) ?_
              clear hK' K' hb2
              try simp only [wpSegsF, List.take, List.drop]
              repeat (go_big_quiet_step (fail))
              refine wpQuiet_nil ?_
              cases r1 with
              | false =>
                go_wp2_with fail
                go_ret
                exact ModeP.mk _ rfl (fun h => by cases h) hBv2
              | true =>
                go_wp2_with fail
                exact ⟨⟨j + 1, by omega, by go_num, hbv2⟩, by simp [intOf]; omega⟩
            · obtain rfl : j = y.wins.l.length := by omega
              have y1 : wv.cell? ⟨gy, 1, none⟩ = some (.slice y.wins.A y.wins.l.length y.wins.c) := kw.cell 1
              go_wp2_with fail
              go_ret
              exact ModeP.mk _ rfl (fun _ => by rw [← HYE.out]; exact HGD.out) hBv
end Go.Proofs.Ytiglabknaldinaa
