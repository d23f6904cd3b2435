/- The law ShedRests returns true whatever the input. -/
import Derived.Test.YtkmfpchcnbippaaShedWorks
import Derived.Deep.DeepCutAuto
namespace Go.Proofs.Ytkmfpchcnbippaa
open Go.RowKit
theorem restS_rng (lad : List Int) (lv : Int) (k : Nat) (hk : k ≤ 100000) : ∀ x ∈ restS lad lv k, i64 x := by
  intro x hx
  unfold restS at hx
  obtain ⟨j, hj, rfl⟩ := List.mem_map.1 hx
  have := List.mem_range.1 (List.mem_filter.1 hj).1
  unfold i64; omega
theorem restS_sub (lad : List Int) (x y : Int) (h : x ≤ y) (k : Nat) : (restS lad x k).Sublist (restS lad y k) := by
  unfold restS
  apply List.Sublist.map
  induction List.range k with
  | nil => simp
  | cons i l ih =>
    by_cases hx : isR (at0 lad i) x = true
    · have hy : isR (at0 lad i) y = true := by
        unfold isR at hx ⊢
        simp at hx ⊢
        omega
      simp [hx, hy, ih]
    · simp only [List.filter_cons, hx, if_false, Bool.false_eq_true]
      split
      · exact List.Sublist.cons _ ih
      · exact ih
theorem sub_step {a b : List Int} {i j : Nat} (hj : j < b.length) (h : (a.drop i).Sublist (b.drop j)) :
    (i < a.length → at0 a i = at0 b j → (a.drop (i + 1)).Sublist (b.drop (j + 1))) ∧ (¬ (i < a.length ∧ at0 a i = at0 b j) → (a.drop i).Sublist (b.drop (j + 1))) := by
  rw [List.drop_eq_getElem_cons hj] at h
  constructor
  · intro hi he
    rw [List.drop_eq_getElem_cons hi] at h
    rw [at0_lt hi, at0_lt hj] at he
    rw [he] at h
    exact List.cons_sublist_cons.1 h
  · intro hne
    by_cases hi : i < a.length
    · rw [List.drop_eq_getElem_cons hi] at h ⊢
      have he : a[i] ≠ b[j] := fun he => hne ⟨hi, by rw [at0_lt hi, at0_lt hj]; exact he⟩
      generalize a[i] = u at h he ⊢
      generalize b[j] = v at h he
      cases h with
      | cons _ h => exact h
      | cons_cons _ h => exact absurd rfl he
    · rw [List.drop_eq_nil_of_le (by omega)]
      exact List.nil_sublist _
theorem sub_end {a b : List Int} {i : Nat} (h : (a.drop i).Sublist (b.drop b.length)) (hi : i ≤ a.length) : i = a.length := by
  rw [List.drop_length] at h
  have := List.eq_nil_of_sublist_nil h
  have := congrArg List.length this
  simp at this
  omega

set_option maxRecDepth 100000 in
theorem shedRests_law {w : World} {A : Option Addr} {n c : Nat} {cs : List Value} {lad : List Int} (h : Lads w A n c cs lad) (v1 v2 v3 v4 v5 v6 v7 v8 v9 v10 v11 v12 : Value) (x y : Int) :
    Calls Try.prog 6 #[.agg #[.slice A n c, v1, v2, v3, v4, v5, v6, v7, v8, v9, v10, v11, v12], .agg #[.int .i64 x, .int .i64 y]] w fun e w' => e = .returned (.bool true) ∧ Below w.heap.size w w' := by
  have hn := h.sl.len_le
  have b1 := (Blk.new w 43 #[.slice A n c, v1, v2, v3, v4, v5, v6, v7, v8, v9, v10, v11, v12]).alloc (.cells #[.int .i64 x, .int .i64 y] 28)
  have b2 := Blk.new (w.alloc (.cells #[.slice A n c, v1, v2, v3, v4, v5, v6, v7, v8, v9, v10, v11, v12] 43)) 28 #[.int .i64 x, .int .i64 y]
  rw [World.size_alloc] at b2
  have hb := ((Below.refl w.heap.size w).alloc (Nat.le_refl _) (.cells #[.slice A n c, v1, v2, v3, v4, v5, v6, v7, v8, v9, v10, v11, v12] 43)).alloc (by simp) (.cells #[.int .i64 x, .int .i64 y] 28)
  have hsz : w.heap.size + 1 + 1 ≤ ((w.alloc (.cells #[.slice A n c, v1, v2, v3, v4, v5, v6, v7, v8, v9, v10, v11, v12] 43)).alloc (.cells #[.int .i64 x, .int .i64 y] 28)).heap.size := by simp
  by_cases h1 : (100 : Int) < n
  · go_enter Try.func6, Try.ntmps6
    go_wp2_with fail
    refine (works_any _).mono ?_
    rintro e w2 ⟨rfl, hb2⟩
    go_wp2_with fail
    go_ret
    exact ⟨rfl, hb.trans (hb2.mono hb.size)⟩
  have h1' : decide ((100 : Int) < n) = false := by simpa using h1
  have hn100 : n ≤ 100 := by omega
  have hsm : n ≤ 100000 := by omega
  go_enter Try.func6, Try.ntmps6
  go_wp2_with fail
  generalize ((w.alloc (.cells #[.slice A n c, v1, v2, v3, v4, v5, v6, v7, v8, v9, v10, v11, v12] 43)).alloc (.cells #[.int .i64 x, .int .i64 y] 28)) = w1 at b1 b2 hb hsz ⊢
  clear h1 h1'
  have l0 : w.heap.size < w1.heap.size := by omega
  have l1 : w.heap.size + 1 < w1.heap.size := by omega
  have c0 : w1.cell? ⟨w.heap.size, 0, none⟩ = some (.slice A n c) := b1.cell 0
  have c1 : w1.cell? ⟨w.heap.size, 1, none⟩ = some v1 := b1.cell 1
  have c2 : w1.cell? ⟨w.heap.size, 2, none⟩ = some v2 := b1.cell 2
  have c3 : w1.cell? ⟨w.heap.size, 3, none⟩ = some v3 := b1.cell 3
  have c4 : w1.cell? ⟨w.heap.size, 4, none⟩ = some v4 := b1.cell 4
  have c5 : w1.cell? ⟨w.heap.size, 5, none⟩ = some v5 := b1.cell 5
  have c6 : w1.cell? ⟨w.heap.size, 6, none⟩ = some v6 := b1.cell 6
  have c7 : w1.cell? ⟨w.heap.size, 7, none⟩ = some v7 := b1.cell 7
  have c8 : w1.cell? ⟨w.heap.size, 8, none⟩ = some v8 := b1.cell 8
  have c9 : w1.cell? ⟨w.heap.size, 9, none⟩ = some v9 := b1.cell 9
  have c10 : w1.cell? ⟨w.heap.size, 10, none⟩ = some v10 := b1.cell 10
  have c11 : w1.cell? ⟨w.heap.size, 11, none⟩ = some v11 := b1.cell 11
  have c12 : w1.cell? ⟨w.heap.size, 12, none⟩ = some v12 := b1.cell 12
  have d0 : w1.cell? ⟨w.heap.size + 1, 0, none⟩ = some (.int .i64 x) := b2.cell 0
  have d1 : w1.cell? ⟨w.heap.size + 1, 1, none⟩ = some (.int .i64 y) := b2.cell 1
  have h1 := h.keep hb
  refine wp_region_at (fun _ => False) [3, 3] (by kernel_rfl) (by kernel_rfl) ?_
  simp only [wpSegs, List.take, List.drop]
  repeat (go_big_quiet_step (fail))
  refine wpQuiet_nil (wpHead_want rfl (fun K' hK' => ?_))
  go_wp2_with fail
  refine (resting_any (w := w1.drew) (h1.keep (Below.drew (Below.refl _ _))) hsm v1 v2 v3 v4 v5 v6 v7 v8 v9 v10 v11 v12 x).mono ?_
  rintro e w2 ⟨va, rfl, hown2, hb2⟩
  replace hb2 : Below w1.heap.size w1 w2 := (Below.drew (Below.refl _ w1)).trans hb2
  obtain ⟨VA, ca, rfl, hsa, -⟩ := SlI.of_own hown2 (restS_rng lad x n hsm)
  refine hK' _ _ rfl (fr_graft (Fr.of_below hb2 _)) ?_
  clear hK' K'
  try simp only [List.take, List.drop]
  repeat (go_big_quiet_step (fail))
  refine wpQuiet_nil (wpHead_want rfl (fun K' hK' => ?_))
  go_wp2_with fail
  refine (resting_any (h1.keep hb2) hsm v1 v2 v3 v4 v5 v6 v7 v8 v9 v10 v11 v12 y).mono ?_
  rintro e w3 ⟨vb, rfl, hown3, hb3⟩
  obtain ⟨VB, cb, rfl, hsb, -⟩ := SlI.of_own hown3 (restS_rng lad y n hsm)
  have hsa3 := hsa.keep hb3
  replace hb3 : Below w1.heap.size w1 w3 := hb2.trans (hb3.mono hb2.size)
  refine hK' _ _ rfl (fr_graft (Fr.of_below hb3 _)) ?_
  clear hK' K' hown2 hown3 hsa
  try simp only [List.take, List.drop]
  repeat (go_big_quiet_step (fail))
  refine wpQuiet_nil ?_
  obtain ⟨e0, -⟩ := bcell hb3
  have c0' := (e0 w.heap.size 0 l0).trans c0
  have c1' := (e0 w.heap.size 1 l0).trans c1
  have c2' := (e0 w.heap.size 2 l0).trans c2
  have c3' := (e0 w.heap.size 3 l0).trans c3
  have c4' := (e0 w.heap.size 4 l0).trans c4
  have c5' := (e0 w.heap.size 5 l0).trans c5
  have c6' := (e0 w.heap.size 6 l0).trans c6
  have c7' := (e0 w.heap.size 7 l0).trans c7
  have c8' := (e0 w.heap.size 8 l0).trans c8
  have c9' := (e0 w.heap.size 9 l0).trans c9
  have c10' := (e0 w.heap.size 10 l0).trans c10
  have c11' := (e0 w.heap.size 11 l0).trans c11
  have c12' := (e0 w.heap.size 12 l0).trans c12
  have d0' := (e0 (w.heap.size + 1) 0 l1).trans d0
  have d1' := (e0 (w.heap.size + 1) 1 l1).trans d1
  clear e0
  go_wp2_with fail
  refine (refResting_any (h1.keep hb3) hsm v1 v2 v3 v4 v5 v6 v7 v8 v9 v10 v11 v12 x).mono ?_
  rintro e w4 ⟨va, rfl, hown4, hb4⟩
  obtain ⟨VA4, ca4, rfl, hsa4, -⟩ := SlI.of_own hown4 (restS_rng lad x n hsm)
  have hsb4 := hsb.keep hb4
  have hb04 : Below w1.heap.size w1 w4 := hb3.trans (hb4.mono hb3.size)
  go_wp2_with fail
  refine (same_any (hsa3.keep hb4) hsa4).mono ?_
  rintro e w5 ⟨rfl, k, rfl⟩
  rw [show decide (restS lad x n = restS lad x n) = true by simp]
  have hb5 : Below w1.heap.size w1 (w4.drewN k) := below_drewN hb04 k
  obtain ⟨e0, -⟩ := bcell hb5
  have c0'' := (e0 w.heap.size 0 l0).trans c0
  have c1'' := (e0 w.heap.size 1 l0).trans c1
  have c2'' := (e0 w.heap.size 2 l0).trans c2
  have c3'' := (e0 w.heap.size 3 l0).trans c3
  have c4'' := (e0 w.heap.size 4 l0).trans c4
  have c5'' := (e0 w.heap.size 5 l0).trans c5
  have c6'' := (e0 w.heap.size 6 l0).trans c6
  have c7'' := (e0 w.heap.size 7 l0).trans c7
  have c8'' := (e0 w.heap.size 8 l0).trans c8
  have c9'' := (e0 w.heap.size 9 l0).trans c9
  have c10'' := (e0 w.heap.size 10 l0).trans c10
  have c11'' := (e0 w.heap.size 11 l0).trans c11
  have c12'' := (e0 w.heap.size 12 l0).trans c12
  have d0'' := (e0 (w.heap.size + 1) 0 l1).trans d0
  have d1'' := (e0 (w.heap.size + 1) 1 l1).trans d1
  clear e0
  have hw45 : Below w4.heap.size w4 (w4.drewN k) := below_refl_drewN _ w4 k
  have hb34 := hb4
  generalize w4.drewN k = w5 at hw45 hb5 c0'' c1'' c2'' c3'' c4'' c5'' c6'' c7'' c8'' c9'' c10'' c11'' c12'' d0'' d1'' ⊢
  go_wp2_with fail
  replace hb4 : Below w4.heap.size w4 w5 := hw45
  refine (refResting_any (h1.keep hb5) hsm v1 v2 v3 v4 v5 v6 v7 v8 v9 v10 v11 v12 y).mono ?_
  rintro e w6 ⟨vb, rfl, hown6, hb6⟩
  obtain ⟨VB6, cb6, rfl, hsb6, -⟩ := SlI.of_own hown6 (restS_rng lad y n hsm)
  have hb06 : Below w1.heap.size w1 w6 := hb5.trans (hb6.mono hb5.size)
  go_wp2_with fail
  refine (same_any ((hsb4.keep hb4).keep hb6) hsb6).mono ?_
  rintro e w7 ⟨rfl, k7, rfl⟩
  rw [show decide (restS lad y n = restS lad y n) = true by simp]
  have hb7 : Below w1.heap.size w1 (w6.drewN k7) := below_drewN hb06 k7
  have hsaz := (((hsa3.keep hb34).keep hb4).keep hb6).keep (below_refl_drewN _ w6 k7)
  have hsbz := ((hsb4.keep hb4).keep hb6).keep (below_refl_drewN _ w6 k7)
  obtain ⟨e0, -⟩ := bcell hb7
  have d0' := (e0 (w.heap.size + 1) 0 l1).trans d0
  have d1' := (e0 (w.heap.size + 1) 1 l1).trans d1
  generalize w6.drewN k7 = w7 at hb7 hsaz hsbz d0' d1' ⊢
  clear e0 c0 c1 c2 c3 c4 c5 c6 c7 c8 c9 c10 c11 c12 d0 d1
  have hbz : Below w.heap.size w w7 := hb.trans (hb7.mono hb.size)
  by_cases hxy : y < x
  · go_wp2_with fail
    refine (works_any _).mono ?_
    rintro e w8 ⟨rfl, hb8⟩
    go_wp2_with fail
    go_ret
    exact ⟨rfl, hbz.trans (hb8.mono hbz.size)⟩
  · have hsub := restS_sub lad x y (by omega) n
    have hxy' : decide (y < x) = false := by simpa using hxy
    have hla : (restS lad x n).length ≤ 9223372036854775807 := hsaz.len
    have hlb : (restS lad y n).length ≤ 9223372036854775807 := hsbz.len
    generalize restS lad x n = ra at hsub hla hsaz ⊢
    generalize restS lad y n = rb at hsub hlb hsbz ⊢
    have HS := Lib.hid hsub
    clear hsub
    go_wp2_with fail
    go_loopw [7, 8] (fun u v wr => ∃ i j : Nat, i ≤ ra.length ∧ j ≤ rb.length ∧ u = .int .i64 i ∧ v = .int .i64 j ∧ Hid ((ra.drop i).Sublist (rb.drop j)) ∧ ∃ q, wr = w7.drewN q) (fun _ v _ => rb.length - (intOf v).toNat)
    case atStart => exact ⟨0, 0, Nat.zero_le _, Nat.zero_le _, rfl, rfl, HS, 0, rfl⟩
    case round =>
      obtain ⟨i, j, hi, hj, rfl, rfl, HI, q, rfl⟩ := hrel
      by_cases hlt : j < rb.length
      · obtain ⟨bb, ob, rfl, hbb, hcb⟩ := hsbz.at_ hlt
        have H2 : Hid ((i < ra.length → at0 ra i = at0 rb j → (ra.drop (i + 1)).Sublist (rb.drop (j + 1))) ∧ (¬ (i < ra.length ∧ at0 ra i = at0 rb j) → (ra.drop i).Sublist (rb.drop (j + 1)))) := sub_step hlt HI.out
        by_cases hia : i < ra.length
        · obtain ⟨ba, oa, rfl, hba, hca⟩ := hsaz.at_ hia
          by_cases he : at0 ra i = at0 rb j
          · have he' : (at0 ra i == at0 rb j) = true := by simpa using he
            have H3 : Hid ((ra.drop (i + 1)).Sublist (rb.drop (j + 1))) := H2.out.1 hia he
            clear he
            go_wp2_with fail
            go_quiet (fail)
            go_wp2_with fail
            exact ⟨⟨i + 1, j + 1, by omega, by omega, by go_num, by go_num, H3, _, rfl⟩, by simp [intOf]; omega⟩
          · have he' : (at0 ra i == at0 rb j) = false := by simpa using he
            have H3 : Hid ((ra.drop i).Sublist (rb.drop (j + 1))) := H2.out.2 (fun h => he h.2)
            clear he
            go_wp2_with fail
            go_quiet (fail)
            go_wp2_with fail
            exact ⟨⟨i, j + 1, by omega, by omega, rfl, by go_num, H3, _, rfl⟩, by simp [intOf]; omega⟩
        · have hia' : decide ((i : Int) < (ra.length : Int)) = false := by simp; omega
          have H3 : Hid ((ra.drop i).Sublist (rb.drop (j + 1))) := H2.out.2 (fun h => hia h.1)
          go_wp2_with fail
          go_quiet (fail)
          go_wp2_with fail
          exact ⟨⟨i, j + 1, by omega, by omega, rfl, by go_num, H3, _, rfl⟩, by simp [intOf]; omega⟩
      · obtain rfl : j = rb.length := by omega
        have hend := sub_end HI.out hi
        subst hend
        go_wp2_with fail
        refine (works_any _).mono ?_
        rintro e w8 ⟨rfl, hb8⟩
        go_wp2_with fail
        go_ret
        exact ⟨rfl, hbz.trans ((below_refl_drewN _ w7 q).trans (hb8.mono (by simpa using hbz.size)))⟩
end Go.Proofs.Ytkmfpchcnbippaa
