/- The law CalendarPages returns true whatever the input. -/
import Derived.Test.YtiglabknaldinaaCfgShort
import Derived.Test.YtiglabknaldinaaCalRefB
import Derived.Test.YtiglabknaldinaaCalWorks
namespace Go.Proofs.Ytiglabknaldinaa
open Go.RowKit
set_option maxRecDepth 100000 in
set_option maxHeartbeats 6400000 in
theorem calendarPages_law {x : Cf} {L : Hd Fm} {w : World} (hx : x.ok w) (hL : rdFms.ok w L) :
    Calls Try.prog 3 #[x.v, L.v] w fun e w' => e = .returned (.bool true) ∧ Below w.heap.size w w' := by
  have hn := hL.1.len
  have hb := (Below.refl w.heap.size w).alloc (Nat.le_refl _) (.cells #[.slice x.parts.A x.parts.l.length x.parts.c, .slice x.chans.A x.chans.l.length x.chans.c, .slice x.modes.A x.modes.l.length x.modes.c, .slice x.pw.levels.A x.pw.levels.l.length x.pw.levels.c, .slice x.pw.naps.A x.pw.naps.l.length x.pw.naps.c, .int .i64 x.pw.sw, .int .i64 x.pw.idle, .int .i64 x.pw.change, .int .i64 x.pw.quant, .int .i64 x.pw.slow, .int .i64 x.pw.ppm, .slice x.shed.down.A x.shed.down.l.length x.shed.down.c, .slice x.shed.up.A x.shed.up.l.length x.shed.up.c] 33)
  have b1 := Blk.new w 33 #[.slice x.parts.A x.parts.l.length x.parts.c, .slice x.chans.A x.chans.l.length x.chans.c, .slice x.modes.A x.modes.l.length x.modes.c, .slice x.pw.levels.A x.pw.levels.l.length x.pw.levels.c, .slice x.pw.naps.A x.pw.naps.l.length x.pw.naps.c, .int .i64 x.pw.sw, .int .i64 x.pw.idle, .int .i64 x.pw.change, .int .i64 x.pw.quant, .int .i64 x.pw.slow, .int .i64 x.pw.ppm, .slice x.shed.down.A x.shed.down.l.length x.shed.down.c, .slice x.shed.up.A x.shed.up.l.length x.shed.up.c]
  simp only [Cf.v, Hd.v]
  go_enter Try.func3, Try.ntmps3
  go_upto_region 1 with fail
  generalize w.alloc (.cells #[.slice x.parts.A x.parts.l.length x.parts.c, .slice x.chans.A x.chans.l.length x.chans.c, .slice x.modes.A x.modes.l.length x.modes.c, .slice x.pw.levels.A x.pw.levels.l.length x.pw.levels.c, .slice x.pw.naps.A x.pw.naps.l.length x.pw.naps.c, .int .i64 x.pw.sw, .int .i64 x.pw.idle, .int .i64 x.pw.change, .int .i64 x.pw.quant, .int .i64 x.pw.slow, .int .i64 x.pw.ppm, .slice x.shed.down.A x.shed.down.l.length x.shed.down.c, .slice x.shed.up.A x.shed.up.l.length x.shed.up.c] 33) = w1 at hb b1 ⊢
  have c0 : w1.cell? ⟨w.heap.size, 0, none⟩ = some (.slice x.parts.A x.parts.l.length x.parts.c) := b1.cell 0
  have c1 : w1.cell? ⟨w.heap.size, 1, none⟩ = some (.slice x.chans.A x.chans.l.length x.chans.c) := b1.cell 1
  have c2 : w1.cell? ⟨w.heap.size, 2, none⟩ = some (.slice x.modes.A x.modes.l.length x.modes.c) := b1.cell 2
  have c3 : w1.cell? ⟨w.heap.size, 3, none⟩ = some (.slice x.pw.levels.A x.pw.levels.l.length x.pw.levels.c) := b1.cell 3
  have c4 : w1.cell? ⟨w.heap.size, 4, none⟩ = some (.slice x.pw.naps.A x.pw.naps.l.length x.pw.naps.c) := b1.cell 4
  have c5 : w1.cell? ⟨w.heap.size, 5, none⟩ = some (.int .i64 x.pw.sw) := b1.cell 5
  have c6 : w1.cell? ⟨w.heap.size, 6, none⟩ = some (.int .i64 x.pw.idle) := b1.cell 6
  have c7 : w1.cell? ⟨w.heap.size, 7, none⟩ = some (.int .i64 x.pw.change) := b1.cell 7
  have c8 : w1.cell? ⟨w.heap.size, 8, none⟩ = some (.int .i64 x.pw.quant) := b1.cell 8
  have c9 : w1.cell? ⟨w.heap.size, 9, none⟩ = some (.int .i64 x.pw.slow) := b1.cell 9
  have c10 : w1.cell? ⟨w.heap.size, 10, none⟩ = some (.int .i64 x.pw.ppm) := b1.cell 10
  have c11 : w1.cell? ⟨w.heap.size, 11, none⟩ = some (.slice x.shed.down.A x.shed.down.l.length x.shed.down.c) := b1.cell 11
  have c12 : w1.cell? ⟨w.heap.size, 12, none⟩ = some (.slice x.shed.up.A x.shed.up.l.length x.shed.up.c) := b1.cell 12
  have hl1 := b1.lt
  go_wp2_with fail
  refine (short_any (w := w1) (rdCf.keep hx hb)).mono ?_
  rintro e w2 ⟨bs, rfl, hsh, hb2⟩
  have b2 := b1.keep hb2
  have hB2 := hb.trans (hb2.mono hb.size)
  clear c0 c1 c2 c3 c4 c5 c6 c7 c8 c9 c10 c11 c12
  cases bs with
  | false =>
    clear hsh
    go_wp2_with fail
    refine (works_any _).mono ?_
    rintro e w3 ⟨rfl, hb3⟩
    go_wp2_with fail
    go_ret
    exact ⟨rfl, hB2.trans (hb3.mono hB2.size)⟩
  | true =>
    have HSH := Lib.hid (hsh rfl)
    clear hsh
    by_cases h100 : 100 < L.l.length
    · go_wp2_with fail
      refine (works_any _).mono ?_
      rintro e w3 ⟨rfl, hb3⟩
      go_wp2_with fail
      go_ret
      exact ⟨rfl, hB2.trans (hb3.mono hB2.size)⟩
    · have _d := True.intro
      have c0 : w2.cell? ⟨w.heap.size, 0, none⟩ = some (.slice x.parts.A x.parts.l.length x.parts.c) := b2.cell 0
      have c1 : w2.cell? ⟨w.heap.size, 1, none⟩ = some (.slice x.chans.A x.chans.l.length x.chans.c) := b2.cell 1
      have c2 : w2.cell? ⟨w.heap.size, 2, none⟩ = some (.slice x.modes.A x.modes.l.length x.modes.c) := b2.cell 2
      have c3 : w2.cell? ⟨w.heap.size, 3, none⟩ = some (.slice x.pw.levels.A x.pw.levels.l.length x.pw.levels.c) := b2.cell 3
      have c4 : w2.cell? ⟨w.heap.size, 4, none⟩ = some (.slice x.pw.naps.A x.pw.naps.l.length x.pw.naps.c) := b2.cell 4
      have c5 : w2.cell? ⟨w.heap.size, 5, none⟩ = some (.int .i64 x.pw.sw) := b2.cell 5
      have c6 : w2.cell? ⟨w.heap.size, 6, none⟩ = some (.int .i64 x.pw.idle) := b2.cell 6
      have c7 : w2.cell? ⟨w.heap.size, 7, none⟩ = some (.int .i64 x.pw.change) := b2.cell 7
      have c8 : w2.cell? ⟨w.heap.size, 8, none⟩ = some (.int .i64 x.pw.quant) := b2.cell 8
      have c9 : w2.cell? ⟨w.heap.size, 9, none⟩ = some (.int .i64 x.pw.slow) := b2.cell 9
      have c10 : w2.cell? ⟨w.heap.size, 10, none⟩ = some (.int .i64 x.pw.ppm) := b2.cell 10
      have c11 : w2.cell? ⟨w.heap.size, 11, none⟩ = some (.slice x.shed.down.A x.shed.down.l.length x.shed.down.c) := b2.cell 11
      have c12 : w2.cell? ⟨w.heap.size, 12, none⟩ = some (.slice x.shed.up.A x.shed.up.l.length x.shed.up.c) := b2.cell 12
      have hl2 := b2.lt
      have hx2 := rdCf.keep hx hB2
      have hL2 := rdFms.keep hL hB2
      go_wp2_with fail
      refine wp_region_fen (fun _ => False) [(2, 0), (2, 0)] (by kernel_rfl) (by kernel_rfl) ?_
      simp only [wpSegsF, List.take, List.drop]
      repeat (go_big_quiet_step (fail))
      refine wpQuiet_nil (wpHeadF_want rfl (fun K' hK' => ?_))
      go_wp2_with fail
      have hbd : Below w2.heap.size w2 w2.drew := Below.drew (Below.refl _ w2)
      refine (Pages_any (w := w2.drew) (rdCf.keep hx2 hbd) (rdFms.keep hL2 hbd) (by omega)).mono ?_
      rintro e w3 ⟨v, rfl, hown, hb3⟩
      replace hb3 : Below w2.heap.size w2 w3 := hbd.trans hb3
      obtain ⟨VA, vc, rfl, hV, -⟩ := SlG.of_own hown (fun _ _ => rfl) rfl
      refine hK' _ _ rfl (fr_graft (Fr.of_below hb3 _)) ?_
      clear hK' K' hown
      try simp only [wpSegsF, List.take, List.drop]
      repeat (go_big_quiet_step (fail))
      refine wpQuiet_nil (wpHeadF_want rfl (fun K' hK' => ?_))
      go_wp2_with fail
      refine (refPages_any (w := w3) (rdCf.keep hx2 hb3) (rdFms.keep hL2 hb3) (by omega)).mono ?_
      rintro e w4 ⟨v, rfl, hown, hb4⟩
      obtain ⟨UA, uc, rfl, hU, -⟩ := SlG.of_own hown (fun _ _ => rfl) rfl
      have hV4 := hV.keep hb4
      have hb24 := hb3.trans (hb4.mono hb3.size)
      have hB4 := hB2.trans (hb24.mono hB2.size)
      refine hK' _ _ rfl (fr_graft (Fr.of_below hb24 _)) ?_
      clear hK' K' hown hV hb3 hb4 hb24 hbd c0 c1 c2 c3 c4 c5 c6 c7 c8 c9 c10 c11 c12
      try simp only [wpSegsF]
      repeat (go_big_quiet_step (fail))
      refine wpQuiet_nil ?_
      generalize pagesS x Pg0 L.l = P at hV4 hU ⊢
      have hPn := hU.len
      go_wp2_with fail
      obtain ⟨wo, rfl⟩ : ∃ wo : World, wo = w4 := ⟨_, rfl⟩
      go_loopw [7] (fun i wr => ∃ k : Nat, k ≤ P.length ∧ i = .int .i64 (k : Int) ∧ ∃ q, wr = wo.drewN q) (fun i _ => P.length - (intOf i).toNat)
      case atStart => exact ⟨0, Nat.zero_le _, rfl, 0, rfl⟩
      case round =>
        obtain ⟨k, hk, rfl, q, rfl⟩ := hrel
        by_cases hlt : k < P.length
        · obtain ⟨vb, vo, rfl, hvb, v0, v1, v2, v3⟩ := pgF_at hV4 hlt
          obtain ⟨ub, uo, rfl, hub, u0, u1, u2, u3⟩ := pgF_at hU hlt
          generalize atD Pg0 P k = s at v0 v1 v2 v3 u0 u1 u2 u3
          go_wp2_with fail
          go_quiet (fail)
          go_wp2_with fail
          exact ⟨⟨k + 1, by omega, by go_num, _, rfl⟩, by simp [intOf]; omega⟩
        · obtain rfl : k = P.length := by omega
          go_wp2_with fail
          refine (works_any _).mono ?_
          rintro e w5 ⟨rfl, hb5⟩
          go_wp2_with fail
          go_ret
          exact ⟨rfl, hB4.trans ((below_refl_drewN _ wo q).trans (hb5.mono hB4.size))⟩
end Go.Proofs.Ytiglabknaldinaa
