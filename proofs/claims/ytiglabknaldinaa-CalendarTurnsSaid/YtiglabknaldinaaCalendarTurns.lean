/- The law CalendarTurns returns true whatever the input. -/
import Derived.Test.YtiglabknaldinaaCalRefB
import Derived.Test.YtiglabknaldinaaCalWorks
namespace Go.Proofs.Ytiglabknaldinaa
open Go.RowKit
theorem stF_at {w : World} {A : Option Addr} {n c : Nat} {l : List St} (h : SlG w A n c 3 St.f l) {k : Nat} (hk : k < n) : ∃ b o, A = some ⟨b, o, none⟩ ∧ b < w.heap.size ∧ w.cell? ⟨b, o + k * 3, none⟩ = some (.int .i64 (atD St0 l k).part) ∧ w.cell? ⟨b, o + k * 3 + 1, none⟩ = some (.int .i64 (atD St0 l k).fr) ∧ w.cell? ⟨b, o + k * 3 + 2, none⟩ = some (.int .i64 (atD St0 l k).to) := by
  obtain ⟨b, o, hA, hb, hc⟩ := h.at_ St0 hk
  exact ⟨b, o, hA, hb, hc 0 _ rfl, hc 1 _ rfl, hc 2 _ rfl⟩
theorem slotsS_at (m : Md) (at_ : Int) {k : Nat} (hk : k < m.wins.l.length) : atD St0 (slotsS m at_) k = slotS at_ (atD Wn0 m.wins.l k) := by
  unfold slotsS
  rw [atD_lt (by simpa using hk), atD_lt hk, List.getElem_map]
set_option maxRecDepth 100000 in
set_option maxHeartbeats 6400000 in
theorem calendarTurns_law {x : Cf} {w : World} (hx : x.ok w) (n0 n1 at_ : Int) (hat : i64 at_) :
    Calls Try.prog 5 #[x.v, .agg #[.int .i64 n0, .int .i64 n1], .int .i64 at_] w fun e w' => e = .returned (.bool true) ∧ Below w.heap.size w w' := by
  have hmn := hx.2.2.1.1.len
  have hb := ((Below.refl w.heap.size w).alloc (Nat.le_refl _) (.cells #[.slice x.parts.A x.parts.l.length x.parts.c, .slice x.chans.A x.chans.l.length x.chans.c, .slice x.modes.A x.modes.l.length x.modes.c, .slice x.pw.levels.A x.pw.levels.l.length x.pw.levels.c, .slice x.pw.naps.A x.pw.naps.l.length x.pw.naps.c, .int .i64 x.pw.sw, .int .i64 x.pw.idle, .int .i64 x.pw.change, .int .i64 x.pw.quant, .int .i64 x.pw.slow, .int .i64 x.pw.ppm, .slice x.shed.down.A x.shed.down.l.length x.shed.down.c, .slice x.shed.up.A x.shed.up.l.length x.shed.up.c] 33)).alloc (by simp) (.cells #[.int .i64 n0, .int .i64 n1] 52)
  have b1 := (Blk.new w 33 #[.slice x.parts.A x.parts.l.length x.parts.c, .slice x.chans.A x.chans.l.length x.chans.c, .slice x.modes.A x.modes.l.length x.modes.c, .slice x.pw.levels.A x.pw.levels.l.length x.pw.levels.c, .slice x.pw.naps.A x.pw.naps.l.length x.pw.naps.c, .int .i64 x.pw.sw, .int .i64 x.pw.idle, .int .i64 x.pw.change, .int .i64 x.pw.quant, .int .i64 x.pw.slow, .int .i64 x.pw.ppm, .slice x.shed.down.A x.shed.down.l.length x.shed.down.c, .slice x.shed.up.A x.shed.up.l.length x.shed.up.c]).alloc (.cells #[.int .i64 n0, .int .i64 n1] 52)
  have d1 := Blk.new (w.alloc (.cells #[.slice x.parts.A x.parts.l.length x.parts.c, .slice x.chans.A x.chans.l.length x.chans.c, .slice x.modes.A x.modes.l.length x.modes.c, .slice x.pw.levels.A x.pw.levels.l.length x.pw.levels.c, .slice x.pw.naps.A x.pw.naps.l.length x.pw.naps.c, .int .i64 x.pw.sw, .int .i64 x.pw.idle, .int .i64 x.pw.change, .int .i64 x.pw.quant, .int .i64 x.pw.slow, .int .i64 x.pw.ppm, .slice x.shed.down.A x.shed.down.l.length x.shed.down.c, .slice x.shed.up.A x.shed.up.l.length x.shed.up.c] 33)) 52 #[.int .i64 n0, .int .i64 n1]
  simp only [Cf.v]
  go_enter Try.func5, Try.ntmps5
  go_upto_region 1 with fail
  generalize (w.alloc (.cells #[.slice x.parts.A x.parts.l.length x.parts.c, .slice x.chans.A x.chans.l.length x.chans.c, .slice x.modes.A x.modes.l.length x.modes.c, .slice x.pw.levels.A x.pw.levels.l.length x.pw.levels.c, .slice x.pw.naps.A x.pw.naps.l.length x.pw.naps.c, .int .i64 x.pw.sw, .int .i64 x.pw.idle, .int .i64 x.pw.change, .int .i64 x.pw.quant, .int .i64 x.pw.slow, .int .i64 x.pw.ppm, .slice x.shed.down.A x.shed.down.l.length x.shed.down.c, .slice x.shed.up.A x.shed.up.l.length x.shed.up.c] 33)).alloc (.cells #[.int .i64 n0, .int .i64 n1] 52) = w1 at hb b1 d1 ⊢
  rw [World.size_alloc] at d1
  have c0 : w1.cell? ⟨w.heap.size, 0, none⟩ = some (.slice x.parts.A x.parts.l.length x.parts.c) := b1.cell 0
  have c1 : w1.cell? ⟨w.heap.size, 1, none⟩ = some (.slice x.chans.A x.chans.l.length x.chans.c) := b1.cell 1
  have c2 : w1.cell? ⟨w.heap.size, 2, none⟩ = some (.slice x.modes.A x.modes.l.length x.modes.c) := b1.cell 2
  have c3 : w1.cell? ⟨w.heap.size, 3, none⟩ = some (.slice x.pw.levels.A x.pw.levels.l.length x.pw.levels.c) := b1.cell 3
  have c4 : w1.cell? ⟨w.heap.size, 4, none⟩ = some (.slice x.pw.naps.A x.pw.naps.l.length x.pw.naps.c) := b1.cell 4
  have c5 : w1.cell? ⟨w.heap.size, 5, none⟩ = some (.int .i64 x.pw.sw) := b1.cell 5
  have c6 : w1.cell? ⟨w.heap.size, 6, none⟩ = some (.int .i64 x.pw.idle) := b1.cell 6
  have c7 : w1.cell? ⟨w.heap.size, 7, none⟩ = some (.int .i64 x.pw.change) := b1.cell 7
  have c8 : w1.cell? ⟨w.heap.size, 8, none⟩ = some (.int .i64 x.pw.quant) := b1.cell 8
  have c9 : w1.cell? ⟨w.heap.size, 9, none⟩ = some (.int .i64 x.pw.slow) := b1.cell 9
  have c10 : w1.cell? ⟨w.heap.size, 10, none⟩ = some (.int .i64 x.pw.ppm) := b1.cell 10
  have c11 : w1.cell? ⟨w.heap.size, 11, none⟩ = some (.slice x.shed.down.A x.shed.down.l.length x.shed.down.c) := b1.cell 11
  have c12 : w1.cell? ⟨w.heap.size, 12, none⟩ = some (.slice x.shed.up.A x.shed.up.l.length x.shed.up.c) := b1.cell 12
  have hl1 := b1.lt
  go_wp2_with fail
  refine (short_any (w := w1) (rdCf.keep hx hb)).mono ?_
  rintro e w2 ⟨bs, rfl, hsh, hb2⟩
  have b2 := b1.keep hb2
  have d2 := d1.keep hb2
  have hB2 := hb.trans (hb2.mono hb.size)
  clear c0 c1 c2 c3 c4 c5 c6 c7 c8 c9 c10 c11 c12
  cases bs with
  | false =>
    clear hsh
    go_wp2_with fail
    refine (works_any _).mono ?_
    rintro e w3 ⟨rfl, hb3⟩
    go_wp2_with fail
    go_ret
    exact ⟨rfl, hB2.trans (hb3.mono hB2.size)⟩
  | true =>
    have HSH := Lib.hid (hsh rfl)
    clear hsh
    have c0 : w2.cell? ⟨w.heap.size, 0, none⟩ = some (.slice x.parts.A x.parts.l.length x.parts.c) := b2.cell 0
    have c1 : w2.cell? ⟨w.heap.size, 1, none⟩ = some (.slice x.chans.A x.chans.l.length x.chans.c) := b2.cell 1
    have c2 : w2.cell? ⟨w.heap.size, 2, none⟩ = some (.slice x.modes.A x.modes.l.length x.modes.c) := b2.cell 2
    have c3 : w2.cell? ⟨w.heap.size, 3, none⟩ = some (.slice x.pw.levels.A x.pw.levels.l.length x.pw.levels.c) := b2.cell 3
    have c4 : w2.cell? ⟨w.heap.size, 4, none⟩ = some (.slice x.pw.naps.A x.pw.naps.l.length x.pw.naps.c) := b2.cell 4
    have c5 : w2.cell? ⟨w.heap.size, 5, none⟩ = some (.int .i64 x.pw.sw) := b2.cell 5
    have c6 : w2.cell? ⟨w.heap.size, 6, none⟩ = some (.int .i64 x.pw.idle) := b2.cell 6
    have c7 : w2.cell? ⟨w.heap.size, 7, none⟩ = some (.int .i64 x.pw.change) := b2.cell 7
    have c8 : w2.cell? ⟨w.heap.size, 8, none⟩ = some (.int .i64 x.pw.quant) := b2.cell 8
    have c9 : w2.cell? ⟨w.heap.size, 9, none⟩ = some (.int .i64 x.pw.slow) := b2.cell 9
    have c10 : w2.cell? ⟨w.heap.size, 10, none⟩ = some (.int .i64 x.pw.ppm) := b2.cell 10
    have c11 : w2.cell? ⟨w.heap.size, 11, none⟩ = some (.slice x.shed.down.A x.shed.down.l.length x.shed.down.c) := b2.cell 11
    have c12 : w2.cell? ⟨w.heap.size, 12, none⟩ = some (.slice x.shed.up.A x.shed.up.l.length x.shed.up.c) := b2.cell 12
    have e0 : w2.cell? ⟨w.heap.size + 1, 0, none⟩ = some (.int .i64 n0) := d2.cell 0
    have e1 : w2.cell? ⟨w.heap.size + 1, 1, none⟩ = some (.int .i64 n1) := d2.cell 1
    have hl2 := b2.lt
    have hm2 := d2.lt
    have hx2 := rdCf.keep hx hB2
    go_upto_region 4 with fail
    go_cut [28] (fun v W => v = .bool (inB x.modes.l.length n1) ∧ w2 = W)
    case first =>
      by_cases h1 : 0 ≤ n1
      · by_cases h2 : n1 < x.modes.l.length
        · have HT := Lib.hid (inB_yes h1 h2)
          go_wp2_with fail
          go_meet
          case rel => exact ⟨by rw [HT.out], rfl⟩
        · have HT := Lib.hid (inB_no (n := x.modes.l.length) (want := n1) (by omega))
          have h2' : decide (n1 < (x.modes.l.length : Int)) = false := by simpa using h2
          go_wp2_with fail
          go_meet
          case rel => exact ⟨by rw [HT.out], rfl⟩
      · have HT := Lib.hid (inB_no (n := x.modes.l.length) (want := n1) (by omega))
        have h1' : decide (0 ≤ n1) = false := by simpa using h1
        go_wp2_with fail
        go_meet
        case rel => exact ⟨by rw [HT.out], rfl⟩
    case rest =>
      obtain ⟨rfl, rfl⟩ := hcut
      go_upto_if 28 with fail
      go_cut [7] (fun v W => v = .int .i64 (turnS x.modes.l.length n0 n1) ∧ w2 = W)
      case first =>
        by_cases h : 0 ≤ n1 ∧ n1 < x.modes.l.length
        · have HT := Lib.hid (turn_in (mode := n0) h.1 h.2)
          rw [inB_yes h.1 h.2]
          clear h
          go_wp2_with fail
          go_meet
          case rel => exact ⟨by rw [HT.out], rfl⟩
        · have HT := Lib.hid (turn_out (mode := n0) h)
          rw [inB_no h]
          clear h
          go_wp2_with fail
          go_meet
          case rel => exact ⟨by rw [HT.out], rfl⟩
      case rest =>
        obtain ⟨rfl, rfl⟩ := hcut
        go_wp2_with fail
        refine (turn_any x (w := w2) hx2 n0 n1).mono ?_
        rintro e w3 ⟨rfl, hb3⟩
        have b3 := b2.keep hb3
        have hB3 := hB2.trans (hb3.mono hB2.size)
        clear c0 c1 c2 c3 c4 c5 c6 c7 c8 c9 c10 c11 c12 e0 e1 hx2 hb3 hB2 b2 d2 d1 b1 hb2 hb
        generalize turnS x.modes.l.length n0 n1 = tt
        go_wp2_with fail
        obtain ⟨wo, rfl⟩ : ∃ wo : World, wo = w3 := ⟨_, rfl⟩
        go_loopw [8] (fun i wr => ∃ k : Nat, k ≤ x.modes.l.length ∧ i = .int .i64 (k : Int) ∧ Below wo.heap.size wo wr) (fun i _ => x.modes.l.length - (intOf i).toNat)
        case atStart => exact ⟨0, Nat.zero_le _, rfl, Below.refl _ _⟩
        case round =>
          obtain ⟨k, hk, rfl, hbw⟩ := hrel
          have bw := b3.keep hbw
          have hBw := hB3.trans (hbw.mono hB3.size)
          have hlw := bw.lt
          have c2 : wr.cell? ⟨w.heap.size, 2, none⟩ = some (.slice x.modes.A x.modes.l.length x.modes.c) := bw.cell 2
          by_cases hlt : k < x.modes.l.length
          · have hw100 := HSH.out.2.2 _ (atD_mem (d := Md0) hlt)
            have hsat := fun j hj => slotsS_at (atD Md0 x.modes.l k) at_ (k := j) hj
            have hsl : (slotsS (atD Md0 x.modes.l k) at_).length = (atD Md0 x.modes.l k).wins.l.length := by simp [slotsS]
            have hme : ∀ W, Below w.heap.size w W → (atD Md0 x.modes.l k).ok W := fun W hW => (rdMds.keep hx.2.2.1 hW).2 _ (atD_mem (d := Md0) hlt)
            have hMM : ∀ W, Below w.heap.size w W → ∀ b o, x.modes.A = some ⟨b, o, none⟩ → b < W.heap.size ∧ W.cell? ⟨b, o + k * 2, none⟩ = some (.int .i64 (atD Md0 x.modes.l k).frame) ∧ W.cell? ⟨b, o + k * 2 + 1, none⟩ = some (.slice (atD Md0 x.modes.l k).wins.A (atD Md0 x.modes.l k).wins.l.length (atD Md0 x.modes.l k).wins.c) := fun W hW b o e => by
              obtain ⟨b', o', e', hlt', hc⟩ := (rdMds.keep hx.2.2.1 hW).1.at_ Md0 hlt
              rw [e'] at e
              cases e
              exact ⟨hlt', hc 0 _ rfl, hc 1 _ rfl⟩
            obtain ⟨mb, mo, hA, hmb, -⟩ := (rdMds.keep hx.2.2.1 hBw).1.at_ Md0 hlt
            obtain ⟨-, m0, m1⟩ := hMM wr hBw mb mo hA
            have HMM := Lib.hid fun W hW => hMM W hW mb mo hA
            have HAA := Lib.hid hA
            rw [hA] at c2
            clear hMM hA
            have HSAT := Lib.hid hsat
            have HSL := Lib.hid hsl
            have HME := Lib.hid hme
            clear hsat hsl hme
            generalize atD Md0 x.modes.l k = md at hw100 HSAT HSL HME m0 m1 HMM
            go_wp2_with fail
            refine (slots_any md (w := wr) (HME.out wr hBw) (by omega) at_ hat).mono ?_
            rintro e w4 ⟨v, rfl, hown, hb4⟩
            obtain ⟨SA, sc, rfl, hS, -⟩ := SlG.of_own hown (fun _ _ => rfl) rfl
            have hb34 := hbw.trans (hb4.mono hbw.size)
            have hB4 := hB3.trans (hb34.mono hB3.size)
            have b4 := bw.keep hb4
            have hl4 := b4.lt
            clear hown c2 m0 m1 hb4 hbw hBw bw hmb
            obtain ⟨hm4, m0, m1⟩ := HMM.out w4 hB4
            have c2 : w4.cell? ⟨w.heap.size, 2, none⟩ = some (.slice (some ⟨mb, mo, none⟩) x.modes.l.length x.modes.c) := by
              have := b4.cell 2
              rw [← HAA.out]
              exact this
            rw [HSL.out] at hS ⊢
            obtain ⟨wq, rfl⟩ : ∃ wq : World, wq = w4 := ⟨_, rfl⟩
            have hsn := hS.len
            go_wp2_with fail
            obtain ⟨wz, rfl⟩ : ∃ wz : World, wz = wq := ⟨_, rfl⟩
            go_loopw [10] (fun i wr => ∃ j : Nat, j ≤ md.wins.l.length ∧ i = .int .i64 (j : Int) ∧ Below wz.heap.size wz wr) (fun i _ => md.wins.l.length - (intOf i).toNat)
            case atStart => exact ⟨0, Nat.zero_le _, rfl, Below.refl _ _⟩
            case round =>
              clear c2 m0 m1
              obtain ⟨j, hj, rfl, hbj⟩ := hrel
              have hBj := hB4.trans (hbj.mono hB4.size)
              have bj := b4.keep hbj
              have hlj := bj.lt
              by_cases hjn : j < md.wins.l.length
              · obtain ⟨hm5, m0, m1⟩ := HMM.out wr hBj
                have c2 : wr.cell? ⟨w.heap.size, 2, none⟩ = some (.slice (some ⟨mb, mo, none⟩) x.modes.l.length x.modes.c) := by
                  have := bj.cell 2
                  rw [← HAA.out]
                  exact this
                obtain ⟨nb, no, hAw, hnb, hnc⟩ := (HME.out wr hBj).2.1.at_ Wn0 hjn
                have n0' : wr.cell? ⟨nb, no + j * 3, none⟩ = some (.int .i64 (atD Wn0 md.wins.l j).part) := hnc 0 _ rfl
                have n1' : wr.cell? ⟨nb, no + j * 3 + 1, none⟩ = some (.int .i64 (atD Wn0 md.wins.l j).start) := hnc 1 _ rfl
                have n2' : wr.cell? ⟨nb, no + j * 3 + 2, none⟩ = some (.int .i64 (atD Wn0 md.wins.l j).len) := hnc 2 _ rfl
                rw [hAw] at m1
                obtain ⟨sb, so, rfl, hsb, s0, s1, s2⟩ := stF_at (hS.keep hbj) hjn
                rw [HSAT.out j hjn] at s0 s1 s2
                simp only [slotS] at s0 s1 s2
                clear hnc hAw
                generalize atD Wn0 md.wins.l j = n at n0' n1' n2' s0 s1 s2
                have hb6 := (Below.refl wr.heap.size wr).alloc (Nat.le_refl _) (.cells #[.int .i64 n.part, .int .i64 n.start, .int .i64 n.len] 55)
                have b6 := Blk.new wr 55 #[.int .i64 n.part, .int .i64 n.start, .int .i64 n.len]
                go_upto_region 18 with fail
                generalize wr.alloc (.cells #[.int .i64 n.part, .int .i64 n.start, .int .i64 n.len] 55) = w6 at hb6 b6 ⊢
                obtain ⟨hcc, -⟩ := bcell hb6
                have s0' := (hcc _ _ hsb).trans s0
                have s1' := (hcc _ _ hsb).trans s1
                have s2' := (hcc _ _ hsb).trans s2
                have hsb6 := Nat.lt_of_lt_of_le hsb hb6.size
                have hbj6 := hbj.trans (hb6.mono hbj.size)
                have y0 : w6.cell? ⟨wr.heap.size, 0, none⟩ = some (.int .i64 n.part) := b6.cell 0
                have y1 : w6.cell? ⟨wr.heap.size, 1, none⟩ = some (.int .i64 n.start) := b6.cell 1
                have y2 : w6.cell? ⟨wr.heap.size, 2, none⟩ = some (.int .i64 n.len) := b6.cell 2
                have hl6 := b6.lt
                clear hcc s0 s1 s2 n0' n1' n2' c2 m0 m1 hsb hbj hBj
                have hw1 := IntWalk.i64_left (at_ + n.start)
                have hw2 := IntWalk.i64_left (wrap64 (at_ + n.start) + n.len)
                go_quiet (fail)
                go_wp2_with fail
                exact ⟨⟨j + 1, by omega, by go_num, hbj6.trans (below_refl_drewN _ _ _)⟩, by simp [intOf]; omega⟩
              · obtain rfl : j = md.wins.l.length := by omega
                go_wp2_with fail
                exact ⟨⟨k + 1, by omega, by go_num, hb34.trans (hbj.mono hb34.size)⟩, by simp [intOf]; omega⟩
          · obtain rfl : k = x.modes.l.length := by omega
            go_wp2_with fail
            refine (works_any _).mono ?_
            rintro e w5 ⟨rfl, hb5⟩
            go_wp2_with fail
            go_ret
            exact ⟨rfl, hBw.trans (hb5.mono hBw.size)⟩
end Go.Proofs.Ytiglabknaldinaa
