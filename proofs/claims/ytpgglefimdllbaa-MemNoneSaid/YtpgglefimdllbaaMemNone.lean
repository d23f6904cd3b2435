/- The law MemNone returns true whatever the input. -/
import Derived.Test.YtpgglefimdllbaaMemGone
import Derived.Test.YtpgglefimdllbaaMemWorks
import Derived.Test.YtpgglefimdllbaaMemArgs
namespace Go.Proofs.Ytpgglefimdllbaa
open Go.RowKit
set_option maxRecDepth 100000 in
set_option maxHeartbeats 3200000 in
theorem memNone_law {w : World} {x : Ac} (hx : x.ok w) : Calls Try.prog 6 #[x.val] w fun e w' => e = .returned (.bool true) ∧ Below w.heap.size w w' := by
  obtain ⟨d, a, n, A, k, c, b⟩ := x
  obtain ⟨hd, ha, hn, hs⟩ := hx
  simp only at hd ha hn hs
  have hkl := hs.len
  have b1 := Blk.new w 41 #[.int .i64 d, .int .i64 a, .int .i64 n, .slice A k c]
  have hb1 := (Below.refl w.heap.size w).alloc (Nat.le_refl _) (.cells #[.int .i64 d, .int .i64 a, .int .i64 n, .slice A k c] 41)
  have s1 := alloc_size w (.cells #[.int .i64 d, .int .i64 a, .int .i64 n, .slice A k c] 41)
  show Calls Try.prog _ #[.agg #[.int .i64 d, .int .i64 a, .int .i64 n, .slice A k c]] w _
  go_enter Try.func6, Try.ntmps6
  go_upto_region 1 with fail
  generalize w.alloc (.cells #[.int .i64 d, .int .i64 a, .int .i64 n, .slice A k c] 41) = w1 at b1 hb1 s1 ⊢
  have a3 : w1.cell? ⟨w.heap.size, 3, none⟩ = some (.slice A k c) := b1.cell 3
  by_cases h1000 : k ≤ 1000
  case' neg =>
    have hk' : (1000 : Int) < (k : Int) := by omega
    go_wp2_with fail
    refine (works_any _).mono ?_
    rintro e w2 ⟨rfl, hb2⟩
    go_wp2_with fail
    go_ret
    exact ⟨rfl, hb1.trans (hb2.mono hb1.size)⟩
  have hk' : ¬ (1000 : Int) < (k : Int) := by omega
  have b2 := Blk.new w1 56 #[.slice none 0 0, .bool false]
  obtain ⟨kb1, kb2, kb, ks⟩ := box2 w1 #[.slice none 0 0, .bool false] #[.pointer none, .pointer (some ⟨w.heap.size + 1, 0, none⟩)] 56 23
  rw [s1] at kb1 kb2
  have b3 := b1.keep kb
  have hB3 := hb1.trans (kb.mono hb1.size)
  clear b2
  go_upto_region 5 with fail
  generalize (w1.alloc (.cells #[.slice none 0 0, .bool false] 56)).alloc (.cells #[.pointer none, .pointer (some ⟨w.heap.size + 1, 0, none⟩)] 23) = w3 at kb1 kb2 kb b3 hB3 ⊢
  clear hb1 b1 s1 ks kb a3
  clear w1
  go_wp2_with fail
  go_loopw [5] (fun i wr => ∃ j : Nat, j ≤ 2 ∧ i = .int .i64 j ∧ Blk wr w.heap.size 41 #[.int .i64 d, .int .i64 a, .int .i64 n, .slice A k c] ∧ Blk wr (w.heap.size + 1) 56 #[.slice none 0 0, .bool false] ∧ Blk wr (w.heap.size + 1 + 1) 23 #[.pointer none, .pointer (some ⟨w.heap.size + 1, 0, none⟩)] ∧ Below w.heap.size w wr) (fun i _ => 2 - (intOf i).toNat)
  case atStart => exact ⟨0, by omega, rfl, b3, kb1, kb2, hB3⟩
  case round =>
    obtain ⟨j, hj, rfl, hba, hbm, hbr, hbw⟩ := hrel
    by_cases hgo : j < 2
    · have hpt : ∃ pt, wr.cell? ⟨w.heap.size + 1 + 1, j, none⟩ = some (.pointer pt) ∧ MGone wr pt := by
        have : j = 0 ∨ j = 1 := by omega
        rcases this with rfl | rfl
        · exact ⟨none, hbr.cell 0, .inl rfl⟩
        · exact ⟨some ⟨w.heap.size + 1, 0, none⟩, hbr.cell 1, .inr ⟨w.heap.size + 1, rfl, hbm⟩⟩
      obtain ⟨pt, hcp, hgn⟩ := hpt
      have a1 : wr.cell? ⟨w.heap.size, 1, none⟩ = some (.int .i64 a) := hba.cell 1
      have a2 : wr.cell? ⟨w.heap.size, 2, none⟩ = some (.int .i64 n) := hba.cell 2
      have a3 : wr.cell? ⟨w.heap.size, 3, none⟩ = some (.slice A k c) := hba.cell 3
      have hal := hba.lt
      have hrl := hbr.lt
      go_wp2_with fail
      refine (clear_gone hgn).mono ?_
      rintro e w2 ⟨rfl, rfl⟩
      go_wp2_with fail
      refine wp_region_fen (fun _ => False) [(8, 0)] (by kernel_rfl) (by kernel_rfl) ?_
      simp only [wpSegsF, List.take, List.drop]
      repeat (go_big_quiet_step (fail))
      refine wpQuiet_nil (wpHeadF_want rfl (fun K' hK' => ?_))
      go_wp2_with fail
      refine (load_gone (w := wr.drew) (hgn.keep (Below.drew (Below.refl _ _)))).mono ?_
      rintro e w4 ⟨rfl, hb4⟩
      replace hb4 : Below wr.heap.size wr w4 := (Below.drew (Below.refl _ wr)).trans hb4
      refine hK' _ _ rfl (fr_graft (Fr.of_below hb4 _)) ?_
      clear hK' K'
      try simp only [wpSegsF]
      repeat (go_big_quiet_step (fail))
      refine wpQuiet_nil ?_
      obtain ⟨hc4, -⟩ := bcell hb4
      have hcp4 := (hc4 _ _ hrl).trans hcp
      have a14 := (hc4 _ _ hal).trans a1
      have a24 := (hc4 _ _ hal).trans a2
      have a34 := (hc4 _ _ hal).trans a3
      have hgn4 := hgn.keep hb4
      have hz4 := hb4.size
      have hal4 : w.heap.size < w4.heap.size := by omega
      have hrl4 : w.heap.size + 1 + 1 < w4.heap.size := by omega
      clear hc4 hcp a1 a2 a3 hgn
      go_wp2_with fail
      refine wp_region_fen (fun _ => False) [(6, 0)] (by kernel_rfl) (by kernel_rfl) ?_
      simp only [wpSegsF, List.take, List.drop]
      repeat (go_big_quiet_step (fail))
      refine wpQuiet_nil (wpHeadF_want rfl (fun K' hK' => ?_))
      go_wp2_with fail
      refine (word_gone (w := w4.drew) (hgn4.keep (Below.drew (Below.refl _ _)))).mono ?_
      rintro e w5 ⟨rfl, hb5⟩
      replace hb5 : Below w4.heap.size w4 w5 := (Below.drew (Below.refl _ w4)).trans hb5
      refine hK' _ _ rfl (fr_graft (Fr.of_below hb5 _)) ?_
      clear hK' K'
      try simp only [wpSegsF]
      repeat (go_big_quiet_step (fail))
      refine wpQuiet_nil ?_
      obtain ⟨hc5, -⟩ := bcell hb5
      have hcp5 := (hc5 _ _ hrl4).trans hcp4
      have a15 := (hc5 _ _ hal4).trans a14
      have a25 := (hc5 _ _ hal4).trans a24
      have a35 := (hc5 _ _ hal4).trans a34
      have hgn5 := hgn4.keep hb5
      have hz5 := hb5.size
      have hal5 : w.heap.size < w5.heap.size := by omega
      have hrl5 : w.heap.size + 1 + 1 < w5.heap.size := by omega
      have hb45 := hb4.trans (hb5.mono hb4.size)
      clear hc5 hcp4 a14 a24 a34 hgn4 hb5 hb4 hz4 hz5 hal4 hrl4
      go_wp2_with fail
      refine wp_region_fen (fun _ => False) [(22, 0), (10, 0), (10, 0), (6, 0)] (by kernel_rfl) (by kernel_rfl) ?_
      simp only [wpSegsF, List.take, List.drop]
      repeat (go_big_quiet_step (fail))
      refine wpQuiet_nil (wpHeadF_want rfl (fun K' hK' => ?_))
      go_wp2_with fail
      refine (may_gone (w := w5.drew) (hgn5.keep (Below.drew (Below.refl _ _)))).mono ?_
      rintro e w6 ⟨rfl, hb6⟩
      replace hb6 : Below w5.heap.size w5 w6 := (Below.drew (Below.refl _ w5)).trans hb6
      refine hK' _ _ rfl (fr_graft (Fr.of_below hb6 _)) ?_
      clear hK' K'
      try simp only [List.take, List.drop]
      repeat (go_big_quiet_step (fail))
      refine wpQuiet_nil (wpHeadF_want rfl (fun K' hK' => ?_))
      go_wp2_with fail
      refine (store_gone (hgn5.keep hb6)).mono ?_
      rintro e w7 ⟨rfl, hb7⟩
      have hb67 := hb6.trans (hb7.mono hb6.size)
      refine hK' _ _ rfl (fr_graft (Fr.of_below hb67 _)) ?_
      clear hK' K'
      try simp only [List.take, List.drop]
      repeat (go_big_quiet_step (fail))
      refine wpQuiet_nil (wpHeadF_want rfl (fun K' hK' => ?_))
      go_wp2_with fail
      refine (put_gone (hgn5.keep hb67)).mono ?_
      rintro e w8 ⟨rfl, hb8⟩
      have hb68 := hb67.trans (hb8.mono hb67.size)
      refine hK' _ _ rfl (fr_graft (Fr.of_below hb68 _)) ?_
      clear hK' K'
      try simp only [List.take, List.drop]
      repeat (go_big_quiet_step (fail))
      refine wpQuiet_nil (wpHeadF_want rfl (fun K' hK' => ?_))
      go_wp2_with fail
      refine (bytes_gone (hgn5.keep hb68)).mono ?_
      rintro e w9 ⟨rfl, rfl⟩
      refine hK' _ _ rfl (fr_graft (Fr.of_below hb68 _)) ?_
      clear hK' K'
      try simp only [wpSegsF]
      repeat (go_big_quiet_step (fail))
      refine wpQuiet_nil ?_
      have hb9 := hb45.trans (hb68.mono hb45.size)
      go_wp2_with fail
      exact ⟨⟨j + 1, by omega, by go_num, hba.keep hb9, hbm.keep hb9, hbr.keep hb9, hbw.trans (hb9.mono hbw.size)⟩, by simp [intOf]; omega⟩
    · obtain rfl : j = 2 := by omega
      clear hgo hj
      go_wp2_with fail
      refine (works_any _).mono ?_
      rintro e w5 ⟨rfl, hb5⟩
      go_wp2_with fail
      go_ret
      exact ⟨rfl, hbw.trans (hb5.mono hbw.size)⟩
end Go.Proofs.Ytpgglefimdllbaa
