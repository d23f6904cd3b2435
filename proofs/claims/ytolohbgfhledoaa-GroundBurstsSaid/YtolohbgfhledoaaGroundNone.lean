/- The law GroundNone returns true whatever the input. -/
import Derived.Test.YtolohbgfhledoaaGrWorks
namespace Go.Proofs.Ytolohbgfhledoaa
open Go.RowKit
set_option maxRecDepth 100000 in
theorem of_any {w : World} {p : Pk} : Calls Try.prog 10 #[p.val] w fun e w' => e = .returned p.val ∧ Below w.heap.size w w' := by
  obtain ⟨q, k, f, v⟩ := p
  have hb := (Below.refl w.heap.size w).alloc (Nat.le_refl _) (.cells #[.int .i64 q, .int .i64 k, .int .i64 f, .int .i64 v] 23)
  show Calls Try.prog _ #[.agg #[.int .i64 q, .int .i64 k, .int .i64 f, .int .i64 v]] w _
  go_enter Try.func10, Try.ntmps10
  go_wp2_with fail
  have b2 := Blk.new (w.alloc (.cells #[.int .i64 q, .int .i64 k, .int .i64 f, .int .i64 v] 23)) 29 #[.int .i64 q, .int .i64 k, .int .i64 f, .int .i64 v]
  have hsz : (w.alloc (.cells #[.int .i64 q, .int .i64 k, .int .i64 f, .int .i64 v] 23)).heap.size = w.heap.size + 1 := by unfold World.alloc; exact Array.size_push _
  have hB := hb.trans (((Below.refl (w.alloc (.cells #[.int .i64 q, .int .i64 k, .int .i64 f, .int .i64 v] 23)).heap.size (w.alloc (.cells #[.int .i64 q, .int .i64 k, .int .i64 f, .int .i64 v] 23))).alloc (Nat.le_refl _) (.cells #[.int .i64 q, .int .i64 k, .int .i64 f, .int .i64 v] 29)).mono hb.size)
  rw [hsz] at b2
  generalize (w.alloc (.cells #[.int .i64 q, .int .i64 k, .int .i64 f, .int .i64 v] 23)).alloc (.cells #[.int .i64 q, .int .i64 k, .int .i64 f, .int .i64 v] 29) = w2 at b2 hB ⊢
  have y0 : w2.cell? ⟨w.heap.size + 1, 0, none⟩ = some (.int .i64 q) := b2.cell 0
  have y1 : w2.cell? ⟨w.heap.size + 1, 1, none⟩ = some (.int .i64 k) := b2.cell 1
  have y2 : w2.cell? ⟨w.heap.size + 1, 2, none⟩ = some (.int .i64 f) := b2.cell 2
  have y3 : w2.cell? ⟨w.heap.size + 1, 3, none⟩ = some (.int .i64 v) := b2.cell 3
  exact bodyPost_ret (v := .agg #[.int .i64 q, .int .i64 k, .int .i64 f, .int .i64 v]) (by simp [results, Try.results10, go_sem, y0, y1, y2, y3]) rfl ⟨rfl, hB⟩
set_option maxHeartbeats 1600000 in
set_option maxRecDepth 100000 in
theorem groundNone_law {w : World} {p : Pk} :
    Calls Try.prog 7 #[p.val] w fun e w' => e = .returned (.bool true) ∧ Below w.heap.size w w' := by
  obtain ⟨q, k, f, v⟩ := p
  have hb := (Below.refl w.heap.size w).alloc (Nat.le_refl _) (.cells #[.int .i64 q, .int .i64 k, .int .i64 f, .int .i64 v] 23)
  show Calls Try.prog _ #[.agg #[.int .i64 q, .int .i64 k, .int .i64 f, .int .i64 v]] w _
  go_enter Try.func7, Try.ntmps7
  go_wp2_with fail
  have b1 := Blk.new w 23 #[.int .i64 q, .int .i64 k, .int .i64 f, .int .i64 v]
  have hsz : (w.alloc (.cells #[.int .i64 q, .int .i64 k, .int .i64 f, .int .i64 v] 23)).heap.size = w.heap.size + 1 := by unfold World.alloc; exact Array.size_push _
  generalize w.alloc (.cells #[.int .i64 q, .int .i64 k, .int .i64 f, .int .i64 v] 23) = w1 at hb b1 hsz ⊢
  have b2 := Blk.new w1 62 #[.slice none 0 0, .slice none 0 0, .int .i64 0, .int .i64 0, .bool false]
  have hb2 := (Below.refl w1.heap.size w1).alloc (Nat.le_refl _) (.cells #[.slice none 0 0, .slice none 0 0, .int .i64 0, .int .i64 0, .bool false] 62)
  have hsz2 : (w1.alloc (.cells #[.slice none 0 0, .slice none 0 0, .int .i64 0, .int .i64 0, .bool false] 62)).heap.size = w1.heap.size + 1 := by unfold World.alloc; exact Array.size_push _
  have b1' := b1.keep hb2
  have hB2 := hb.trans (hb2.mono hb.size)
  rw [hsz] at b2 hsz2
  generalize w1.alloc (.cells #[.slice none 0 0, .slice none 0 0, .int .i64 0, .int .i64 0, .bool false] 62) = w2 at hB2 b2 b1' hsz2 ⊢
  have b3 := Blk.new w2 49 #[.pointer none, .pointer (some ⟨w.heap.size + 1, 0, none⟩)]
  have hb3 := (Below.refl w2.heap.size w2).alloc (Nat.le_refl _) (.cells #[.pointer none, .pointer (some ⟨w.heap.size + 1, 0, none⟩)] 49)
  have b1'' := b1'.keep hb3
  have b2' := b2.keep hb3
  have hB3 := hB2.trans (hb3.mono hB2.size)
  rw [hsz2] at b3
  generalize w2.alloc (.cells #[.pointer none, .pointer (some ⟨w.heap.size + 1, 0, none⟩)] 49) = w3 at hB3 b3 b1'' b2' ⊢
  clear hb b1 hsz hsz2 hb2 b1' hB2 b2 hb3
  go_loopw [5] (fun i wr => ∃ j : Nat, j ≤ 2 ∧ i = .int .i64 j ∧ Blk wr w.heap.size 23 #[.int .i64 q, .int .i64 k, .int .i64 f, .int .i64 v] ∧ Blk wr (w.heap.size + 1) 62 #[.slice none 0 0, .slice none 0 0, .int .i64 0, .int .i64 0, .bool false] ∧ Blk wr (w.heap.size + 1 + 1) 49 #[.pointer none, .pointer (some ⟨w.heap.size + 1, 0, none⟩)] ∧ Below w.heap.size w wr) (fun i _ => 2 - (intOf i).toNat)
  case atStart => exact ⟨0, by omega, rfl, b1'', b2', b3, hB3⟩
  case round =>
    obtain ⟨j, hj, rfl, hbp, hbs, hbr, hbw⟩ := hrel
    by_cases hgo : j < 2
    · have hpt : ∃ pt, wr.cell? ⟨w.heap.size + 1 + 1, j, none⟩ = some (.pointer pt) ∧ SGone wr pt := by
        have : j = 0 ∨ j = 1 := by omega
        rcases this with rfl | rfl
        · exact ⟨none, hbr.cell 0, .inl rfl⟩
        · exact ⟨some ⟨w.heap.size + 1, 0, none⟩, hbr.cell 1, .inr ⟨w.heap.size + 1, rfl, hbs.cell 4⟩⟩
      obtain ⟨pt, hcp, hgn⟩ := hpt
      have p0 : wr.cell? ⟨w.heap.size, 0, none⟩ = some (.int .i64 q) := hbp.cell 0
      have p1 : wr.cell? ⟨w.heap.size, 1, none⟩ = some (.int .i64 k) := hbp.cell 1
      have p2 : wr.cell? ⟨w.heap.size, 2, none⟩ = some (.int .i64 f) := hbp.cell 2
      have p3 : wr.cell? ⟨w.heap.size, 3, none⟩ = some (.int .i64 v) := hbp.cell 3
      have hrl := hbr.lt
      have hpl := hbp.lt
      go_wp2_with fail
      refine wp_region_at (fun _ => False) [5, 0, 6, 5, 5] (by kernel_rfl) (by kernel_rfl) ?_
      simp only [wpSegs, List.take, List.drop]
      repeat (go_big_quiet_step (fail))
      refine wpQuiet_nil (wpHead_want rfl (fun K' hK' => ?_))
      go_wp2_with fail
      refine (of_any (w := wr.drew) (p := ⟨q, k, f, v⟩)).mono ?_
      rintro e w5 ⟨rfl, hb5⟩
      replace hb5 : Below wr.heap.size wr w5 := (Below.drew (Below.refl _ wr)).trans hb5
      refine hK' _ _ rfl (fr_graft (Fr.of_below hb5 _)) ?_
      clear hK' K'
      try simp only [List.take, List.drop]
      repeat (go_big_quiet_step (fail))
      refine wpQuiet_nil (wpHead_want rfl (fun K' hK' => ?_))
      go_wp2_with fail
      refine (hear_gone (w := w5) (q := ⟨q, k, f, v⟩) (hgn.keep hb5)).mono ?_
      rintro e w6 ⟨rfl, hb6⟩
      have hb6' := hb5.trans (hb6.mono hb5.size)
      have hgn6 := hgn.keep hb6'
      refine hK' _ _ rfl (fr_graft (Fr.of_below hb6' _)) ?_
      clear hK' K'
      try simp only [List.take, List.drop]
      repeat (go_big_quiet_step (fail))
      refine wpQuiet_nil (wpHead_want rfl (fun K' hK' => ?_))
      go_wp2_with fail
      refine (frames_gone hgn6).mono ?_
      rintro e w7 ⟨rfl, rfl⟩
      refine hK' _ _ rfl (fr_graft (Fr.of_below hb6' _)) ?_
      clear hK' K'
      try simp only [List.take, List.drop]
      repeat (go_big_quiet_step (fail))
      refine wpQuiet_nil (wpHead_want rfl (fun K' hK' => ?_))
      go_wp2_with fail
      refine (next_gone hgn6).mono ?_
      rintro e w7 ⟨rfl, rfl⟩
      refine hK' _ _ rfl (fr_graft (Fr.of_below hb6' _)) ?_
      clear hK' K'
      try simp only [List.take, List.drop]
      repeat (go_big_quiet_step (fail))
      refine wpQuiet_nil (wpHead_want rfl (fun K' hK' => ?_))
      go_wp2_with fail
      refine (heard_gone hgn6).mono ?_
      rintro e w7 ⟨rfl, rfl⟩
      refine hK' _ _ rfl (fr_graft (Fr.of_below hb6' _)) ?_
      clear hK' K'
      try simp only [wpSegs]
      repeat (go_big_quiet_step (fail))
      refine wpQuiet_nil ?_
      go_wp2_with fail
      exact ⟨⟨j + 1, by omega, by go_num, hbp.keep hb6', hbs.keep hb6', hbr.keep hb6', hbw.trans (hb6'.mono hbw.size)⟩, by simp [intOf]; omega⟩
    · obtain rfl : j = 2 := by omega
      clear hgo hj
      go_wp2_with fail
      refine (works_any _).mono ?_
      rintro e w5 ⟨rfl, hb5⟩
      go_wp2_with fail
      go_ret
      exact ⟨rfl, hbw.trans (hb5.mono hbw.size)⟩
end Go.Proofs.Ytolohbgfhledoaa
