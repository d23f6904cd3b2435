/- The law CalendarBounds returns true whatever the input. -/
import Derived.Test.YtiglabknaldinaaCalRefB
import Derived.Test.YtiglabknaldinaaCalWorks
namespace Go.Proofs.Ytiglabknaldinaa
open Go.RowKit
/-- how many of the even ones, of the first k, are part's. -/
def evS (bs : List Bd) (part : Int) : Nat → Nat
  | 0 => 0
  | k + 1 => evS bs part k + if k % 2 = 0 ∧ (atD Bd0 bs k).part = part then 1 else 0
theorem evS_le (bs : List Bd) (part : Int) : ∀ k, evS bs part k ≤ k
  | 0 => Nat.le_refl _
  | k + 1 => by
    have := evS_le bs part k
    unfold evS
    split <;> omega
theorem evS_app (bs cs : List Bd) (part : Int) : ∀ k, k ≤ bs.length → evS (bs ++ cs) part k = evS bs part k
  | 0, _ => rfl
  | k + 1, h => by
    unfold evS
    rw [evS_app bs cs part k (by omega), show atD Bd0 (bs ++ cs) k = atD Bd0 bs k by
      unfold atD
      rw [List.getD_eq_getElem?_getD, List.getD_eq_getElem?_getD, List.getElem?_append_left (by omega)]]
theorem evS_all (ss : List St) (part : Int) : evS (bdS ss) part (bdS ss).length = cntS ss part := by
  have key : ∀ n, n ≤ ss.length → evS (bdS (ss.take n)) part (2 * n) = cntS (ss.take n) part := by
    intro n
    induction n with
    | zero => intro _; rfl
    | succ n ih =>
      intro hn
      have hl := bdS_len (ss.take n)
      rw [List.length_take, Nat.min_eq_left (by omega)] at hl
      rw [bdS_take ss hn, cntS_take ss part hn, show 2 * (n + 1) = 2 * n + 1 + 1 by omega]
      unfold evS
      unfold evS
      rw [evS_app _ _ part (2 * n) (by omega), ih (by omega)]
      rw [show atD Bd0 (bdS (ss.take n) ++ [⟨(atD St0 ss n).fr, (atD St0 ss n).fr, (atD St0 ss n).part⟩, ⟨(atD St0 ss n).to, (atD St0 ss n).to, -1⟩]) (2 * n) = ⟨(atD St0 ss n).fr, (atD St0 ss n).fr, (atD St0 ss n).part⟩ by
        rw [← hl]; simp [atD]]
      rw [if_neg (show ¬ ((2 * n + 1) % 2 = 0 ∧ _) by omega)]
      by_cases hp : (atD St0 ss n).part = part
      · rw [if_pos ⟨by omega, hp⟩, if_pos hp]
      · rw [if_neg (fun h => hp h.2), if_neg hp]
  have := key ss.length (Nat.le_refl _)
  rw [List.take_length] at this
  rw [bdS_len]
  exact this
set_option maxRecDepth 100000 in
set_option maxHeartbeats 6400000 in
theorem calendarBounds_law {x : Cf} {L : Hd Fm} {w : World} (hx : x.ok w) (hL : rdFms.ok w L) (part : Int) :
    Calls Try.prog 6 #[x.v, L.v, .int .i64 part] w fun e w' => e = .returned (.bool true) ∧ Below w.heap.size w w' := by
  have hn := hL.1.len
  have hb := (Below.refl w.heap.size w).alloc (Nat.le_refl _) (.cells #[.slice x.parts.A x.parts.l.length x.parts.c, .slice x.chans.A x.chans.l.length x.chans.c, .slice x.modes.A x.modes.l.length x.modes.c, .slice x.pw.levels.A x.pw.levels.l.length x.pw.levels.c, .slice x.pw.naps.A x.pw.naps.l.length x.pw.naps.c, .int .i64 x.pw.sw, .int .i64 x.pw.idle, .int .i64 x.pw.change, .int .i64 x.pw.quant, .int .i64 x.pw.slow, .int .i64 x.pw.ppm, .slice x.shed.down.A x.shed.down.l.length x.shed.down.c, .slice x.shed.up.A x.shed.up.l.length x.shed.up.c] 33)
  have b1 := Blk.new w 33 #[.slice x.parts.A x.parts.l.length x.parts.c, .slice x.chans.A x.chans.l.length x.chans.c, .slice x.modes.A x.modes.l.length x.modes.c, .slice x.pw.levels.A x.pw.levels.l.length x.pw.levels.c, .slice x.pw.naps.A x.pw.naps.l.length x.pw.naps.c, .int .i64 x.pw.sw, .int .i64 x.pw.idle, .int .i64 x.pw.change, .int .i64 x.pw.quant, .int .i64 x.pw.slow, .int .i64 x.pw.ppm, .slice x.shed.down.A x.shed.down.l.length x.shed.down.c, .slice x.shed.up.A x.shed.up.l.length x.shed.up.c]
  simp only [Cf.v, Hd.v]
  go_enter Try.func6, Try.ntmps6
  go_upto_region 1 with fail
  generalize w.alloc (.cells #[.slice x.parts.A x.parts.l.length x.parts.c, .slice x.chans.A x.chans.l.length x.chans.c, .slice x.modes.A x.modes.l.length x.modes.c, .slice x.pw.levels.A x.pw.levels.l.length x.pw.levels.c, .slice x.pw.naps.A x.pw.naps.l.length x.pw.naps.c, .int .i64 x.pw.sw, .int .i64 x.pw.idle, .int .i64 x.pw.change, .int .i64 x.pw.quant, .int .i64 x.pw.slow, .int .i64 x.pw.ppm, .slice x.shed.down.A x.shed.down.l.length x.shed.down.c, .slice x.shed.up.A x.shed.up.l.length x.shed.up.c] 33) = w1 at hb b1 ⊢
  have c0 : w1.cell? ⟨w.heap.size, 0, none⟩ = some (.slice x.parts.A x.parts.l.length x.parts.c) := b1.cell 0
  have c1 : w1.cell? ⟨w.heap.size, 1, none⟩ = some (.slice x.chans.A x.chans.l.length x.chans.c) := b1.cell 1
  have c2 : w1.cell? ⟨w.heap.size, 2, none⟩ = some (.slice x.modes.A x.modes.l.length x.modes.c) := b1.cell 2
  have c3 : w1.cell? ⟨w.heap.size, 3, none⟩ = some (.slice x.pw.levels.A x.pw.levels.l.length x.pw.levels.c) := b1.cell 3
  have c4 : w1.cell? ⟨w.heap.size, 4, none⟩ = some (.slice x.pw.naps.A x.pw.naps.l.length x.pw.naps.c) := b1.cell 4
  have c5 : w1.cell? ⟨w.heap.size, 5, none⟩ = some (.int .i64 x.pw.sw) := b1.cell 5
  have c6 : w1.cell? ⟨w.heap.size, 6, none⟩ = some (.int .i64 x.pw.idle) := b1.cell 6
  have c7 : w1.cell? ⟨w.heap.size, 7, none⟩ = some (.int .i64 x.pw.change) := b1.cell 7
  have c8 : w1.cell? ⟨w.heap.size, 8, none⟩ = some (.int .i64 x.pw.quant) := b1.cell 8
  have c9 : w1.cell? ⟨w.heap.size, 9, none⟩ = some (.int .i64 x.pw.slow) := b1.cell 9
  have c10 : w1.cell? ⟨w.heap.size, 10, none⟩ = some (.int .i64 x.pw.ppm) := b1.cell 10
  have c11 : w1.cell? ⟨w.heap.size, 11, none⟩ = some (.slice x.shed.down.A x.shed.down.l.length x.shed.down.c) := b1.cell 11
  have c12 : w1.cell? ⟨w.heap.size, 12, none⟩ = some (.slice x.shed.up.A x.shed.up.l.length x.shed.up.c) := b1.cell 12
  have hl1 := b1.lt
  go_wp2_with fail
  refine (short_any (w := w1) (rdCf.keep hx hb)).mono ?_
  rintro e w2 ⟨bs, rfl, hsh, hb2⟩
  have b2 := b1.keep hb2
  have hB2 := hb.trans (hb2.mono hb.size)
  clear c0 c1 c2 c3 c4 c5 c6 c7 c8 c9 c10 c11 c12
  cases bs with
  | false =>
    clear hsh
    go_wp2_with fail
    refine (works_any _).mono ?_
    rintro e w3 ⟨rfl, hb3⟩
    go_wp2_with fail
    go_ret
    exact ⟨rfl, hB2.trans (hb3.mono hB2.size)⟩
  | true =>
    have HSH := Lib.hid (hsh rfl)
    clear hsh
    by_cases h100 : 100 < L.l.length
    · go_wp2_with fail
      refine (works_any _).mono ?_
      rintro e w3 ⟨rfl, hb3⟩
      go_wp2_with fail
      go_ret
      exact ⟨rfl, hB2.trans (hb3.mono hB2.size)⟩
    · have _d := True.intro
      have c0 : w2.cell? ⟨w.heap.size, 0, none⟩ = some (.slice x.parts.A x.parts.l.length x.parts.c) := b2.cell 0
      have c1 : w2.cell? ⟨w.heap.size, 1, none⟩ = some (.slice x.chans.A x.chans.l.length x.chans.c) := b2.cell 1
      have c2 : w2.cell? ⟨w.heap.size, 2, none⟩ = some (.slice x.modes.A x.modes.l.length x.modes.c) := b2.cell 2
      have c3 : w2.cell? ⟨w.heap.size, 3, none⟩ = some (.slice x.pw.levels.A x.pw.levels.l.length x.pw.levels.c) := b2.cell 3
      have c4 : w2.cell? ⟨w.heap.size, 4, none⟩ = some (.slice x.pw.naps.A x.pw.naps.l.length x.pw.naps.c) := b2.cell 4
      have c5 : w2.cell? ⟨w.heap.size, 5, none⟩ = some (.int .i64 x.pw.sw) := b2.cell 5
      have c6 : w2.cell? ⟨w.heap.size, 6, none⟩ = some (.int .i64 x.pw.idle) := b2.cell 6
      have c7 : w2.cell? ⟨w.heap.size, 7, none⟩ = some (.int .i64 x.pw.change) := b2.cell 7
      have c8 : w2.cell? ⟨w.heap.size, 8, none⟩ = some (.int .i64 x.pw.quant) := b2.cell 8
      have c9 : w2.cell? ⟨w.heap.size, 9, none⟩ = some (.int .i64 x.pw.slow) := b2.cell 9
      have c10 : w2.cell? ⟨w.heap.size, 10, none⟩ = some (.int .i64 x.pw.ppm) := b2.cell 10
      have c11 : w2.cell? ⟨w.heap.size, 11, none⟩ = some (.slice x.shed.down.A x.shed.down.l.length x.shed.down.c) := b2.cell 11
      have c12 : w2.cell? ⟨w.heap.size, 12, none⟩ = some (.slice x.shed.up.A x.shed.up.l.length x.shed.up.c) := b2.cell 12
      have hl2 := b2.lt
      have hx2 := rdCf.keep hx hB2
      have hL2 := rdFms.keep hL hB2
      go_wp2_with fail
      refine (refBounds_any (w := w2) hx2 hL2 (by omega) HSH.out.2.2).mono ?_
      rintro e w4 ⟨v, rfl, hown, hb4⟩
      obtain ⟨UA, uc, rfl, hU, -⟩ := SlG.of_own hown (fun _ _ => rfl) rfl
      have hB4 := hB2.trans (hb4.mono hB2.size)
      have b4 := b2.keep hb4
      clear hown hb4 c0 c1 c2 c3 c4 c5 c6 c7 c8 c9 c10 c11 c12 hx2 hL2 hb2 b2
      obtain ⟨bs, hbs⟩ : ∃ bs, bs = bdS (allS x (pagesS x Pg0 L.l)) := ⟨_, rfl⟩
      rw [← hbs] at hU ⊢
      have hev := evS_all (allS x (pagesS x Pg0 L.l)) part
      rw [← hbs] at hev
      have HB := Lib.hid hbs
      have HE := Lib.hid hev
      clear hbs hev
      have hbn := hU.len
      go_wp2_with fail
      obtain ⟨wo, rfl⟩ : ∃ wo : World, wo = w4 := ⟨_, rfl⟩
      go_loopw [8, 9] (fun n i wr => ∃ k : Nat, k ≤ bs.length ∧ i = .int .i64 (k : Int) ∧ n = .int .i64 (evS bs part k : Nat) ∧ wo = wr) (fun _ i _ => bs.length - (intOf i).toNat)
      case atStart => exact ⟨0, Nat.zero_le _, rfl, rfl, rfl⟩
      case round =>
        obtain ⟨k, hk, rfl, rfl, rfl⟩ := hrel
        by_cases hlt : k < bs.length
        · obtain ⟨ub, uo, rfl, hub, u0, u1, u2⟩ := bdF_at hU hlt
          have hle := evS_le bs part k
          have hsu : evS bs part (k + 1) = evS bs part k + if k % 2 = 0 ∧ (atD Bd0 bs k).part = part then 1 else 0 := rfl
          have HS := Lib.hid hsu
          clear hsu u0 u1
          generalize evS bs part k = n at hle HS ⊢
          generalize atD Bd0 bs k = s at u2 HS
          by_cases h2 : k % 2 = 0
          · have h2' : ((k : Int) % 2 == 0) = true := by simp; omega
            by_cases hp : s.part = part
            · have hp' : (s.part == part) = true := by simpa using hp
              go_wp2_with fail
              exact ⟨⟨k + 1, by omega, by go_num, by rw [HS.out, if_pos ⟨h2, hp⟩]; go_num, by first | trivial | rfl⟩, by simp [intOf]; omega⟩
            · have hp' : (s.part == part) = false := by simpa using hp
              go_wp2_with fail
              exact ⟨⟨k + 1, by omega, by go_num, by rw [HS.out, if_neg (fun h => hp h.2)]; rfl, by first | trivial | rfl⟩, by simp [intOf]; omega⟩
          · have h2' : ((k : Int) % 2 == 0) = false := by simp; omega
            go_wp2_with fail
            exact ⟨⟨k + 1, by omega, by go_num, by rw [HS.out, if_neg (fun h => h2 h.1)]; rfl, by first | trivial | rfl⟩, by simp [intOf]; omega⟩
        · obtain rfl : k = bs.length := by omega
          have hx4 := rdCf.keep hx hB4
          have hL4 := rdFms.keep hL hB4
          have c0 : wo.cell? ⟨w.heap.size, 0, none⟩ = some (.slice x.parts.A x.parts.l.length x.parts.c) := b4.cell 0
          have c1 : wo.cell? ⟨w.heap.size, 1, none⟩ = some (.slice x.chans.A x.chans.l.length x.chans.c) := b4.cell 1
          have c2 : wo.cell? ⟨w.heap.size, 2, none⟩ = some (.slice x.modes.A x.modes.l.length x.modes.c) := b4.cell 2
          have c3 : wo.cell? ⟨w.heap.size, 3, none⟩ = some (.slice x.pw.levels.A x.pw.levels.l.length x.pw.levels.c) := b4.cell 3
          have c4 : wo.cell? ⟨w.heap.size, 4, none⟩ = some (.slice x.pw.naps.A x.pw.naps.l.length x.pw.naps.c) := b4.cell 4
          have c5 : wo.cell? ⟨w.heap.size, 5, none⟩ = some (.int .i64 x.pw.sw) := b4.cell 5
          have c6 : wo.cell? ⟨w.heap.size, 6, none⟩ = some (.int .i64 x.pw.idle) := b4.cell 6
          have c7 : wo.cell? ⟨w.heap.size, 7, none⟩ = some (.int .i64 x.pw.change) := b4.cell 7
          have c8 : wo.cell? ⟨w.heap.size, 8, none⟩ = some (.int .i64 x.pw.quant) := b4.cell 8
          have c9 : wo.cell? ⟨w.heap.size, 9, none⟩ = some (.int .i64 x.pw.slow) := b4.cell 9
          have c10 : wo.cell? ⟨w.heap.size, 10, none⟩ = some (.int .i64 x.pw.ppm) := b4.cell 10
          have c11 : wo.cell? ⟨w.heap.size, 11, none⟩ = some (.slice x.shed.down.A x.shed.down.l.length x.shed.down.c) := b4.cell 11
          have c12 : wo.cell? ⟨w.heap.size, 12, none⟩ = some (.slice x.shed.up.A x.shed.up.l.length x.shed.up.c) := b4.cell 12
          have hl4 := b4.lt
          have hcn : evS bs part bs.length = cntS (allS x (pagesS x Pg0 L.l)) part := HE.out
          rw [hcn]
          clear hcn
          go_wp2_with fail
          refine (Bounds_any (w := wo) hx4 hL4 (by omega) HSH.out.2.2).mono ?_
          rintro e w5 ⟨v, rfl, hown5, hb5⟩
          rw [← HB.out] at hown5
          obtain ⟨VA, vc, rfl, hV, -⟩ := SlG.of_own hown5 (fun _ _ => rfl) rfl
          have hU5 := hU.keep hb5
          clear hown5 c0 c1 c2 c3 c4 c5 c6 c7 c8 c9 c10 c11 c12
          go_wp2_with fail
          refine (sameBounds_eq hV hU5).mono ?_
          rintro e w6 ⟨rfl, q, rfl⟩
          have hb6 := hb5.trans (below_refl_drewN wo.heap.size w5 q |>.mono (Nat.le_refl _))
          have b6 := b4.keep hb6
          generalize w5.drewN q = w6 at hb6 b6 ⊢
          have hB6 := hB4.trans (hb6.mono hB4.size)
          have hl6 := b6.lt
          have c0 : w6.cell? ⟨w.heap.size, 0, none⟩ = some (.slice x.parts.A x.parts.l.length x.parts.c) := b6.cell 0
          have c1 : w6.cell? ⟨w.heap.size, 1, none⟩ = some (.slice x.chans.A x.chans.l.length x.chans.c) := b6.cell 1
          have c2 : w6.cell? ⟨w.heap.size, 2, none⟩ = some (.slice x.modes.A x.modes.l.length x.modes.c) := b6.cell 2
          have c3 : w6.cell? ⟨w.heap.size, 3, none⟩ = some (.slice x.pw.levels.A x.pw.levels.l.length x.pw.levels.c) := b6.cell 3
          have c4 : w6.cell? ⟨w.heap.size, 4, none⟩ = some (.slice x.pw.naps.A x.pw.naps.l.length x.pw.naps.c) := b6.cell 4
          have c5 : w6.cell? ⟨w.heap.size, 5, none⟩ = some (.int .i64 x.pw.sw) := b6.cell 5
          have c6 : w6.cell? ⟨w.heap.size, 6, none⟩ = some (.int .i64 x.pw.idle) := b6.cell 6
          have c7 : w6.cell? ⟨w.heap.size, 7, none⟩ = some (.int .i64 x.pw.change) := b6.cell 7
          have c8 : w6.cell? ⟨w.heap.size, 8, none⟩ = some (.int .i64 x.pw.quant) := b6.cell 8
          have c9 : w6.cell? ⟨w.heap.size, 9, none⟩ = some (.int .i64 x.pw.slow) := b6.cell 9
          have c10 : w6.cell? ⟨w.heap.size, 10, none⟩ = some (.int .i64 x.pw.ppm) := b6.cell 10
          have c11 : w6.cell? ⟨w.heap.size, 11, none⟩ = some (.slice x.shed.down.A x.shed.down.l.length x.shed.down.c) := b6.cell 11
          have c12 : w6.cell? ⟨w.heap.size, 12, none⟩ = some (.slice x.shed.up.A x.shed.up.l.length x.shed.up.c) := b6.cell 12
          clear hU5 hV hb5
          go_wp2_with fail
          refine (Windows_any (w := w6) (rdCf.keep hx hB6) (rdFms.keep hL hB6) (by omega) HSH.out.2.2 part).mono ?_
          rintro e w7 ⟨rfl, hb7⟩
          have hB7 := hB6.trans (hb7.mono hB6.size)
          clear c0 c1 c2 c3 c4 c5 c6 c7 c8 c9 c10 c11 c12
          generalize cntS (allS x (pagesS x Pg0 L.l)) part = cnt
          go_wp2_with fail
          refine (works_any _).mono ?_
          rintro e w8 ⟨rfl, hb8⟩
          go_wp2_with fail
          go_ret
          exact ⟨rfl, hB7.trans (hb8.mono hB7.size)⟩
end Go.Proofs.Ytiglabknaldinaa
