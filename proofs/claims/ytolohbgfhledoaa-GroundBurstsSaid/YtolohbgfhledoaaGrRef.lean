/- The walks of package ground's reference: May, Same. -/
import Derived.Test.YtolohbgfhledoaaGrHears
namespace Go.Proofs.Ytolohbgfhledoaa
open Go.RowKit
theorem mayR_any {w : World} {p : Pk} : Calls Try.prog 28 #[p.val] w fun e w' => e = .returned (.bool (mayP p)) ∧ Below w.heap.size w w' := by
  obtain ⟨q, k, f, v⟩ := p
  have hb := (Below.refl w.heap.size w).alloc (Nat.le_refl _) (.cells #[.int .i64 q, .int .i64 k, .int .i64 f, .int .i64 v] 23)
  show Calls Try.prog _ #[.agg #[.int .i64 q, .int .i64 k, .int .i64 f, .int .i64 v]] w _
  by_cases h1 : 0 ≤ q
  · by_cases h2 : q ≤ 1000000
    · by_cases h3 : 0 ≤ f
      · by_cases h4 : f ≤ 1000000
        · by_cases h5 : 0 ≤ k
          · by_cases h6 : k ≤ 2
            · have HM : Hid (mayP ⟨q, k, f, v⟩ = true) := mayP_iff.2 ⟨⟨h1, h2⟩, ⟨h3, h4⟩, h5, by simp only; omega⟩
              go_enter Try.func28, Try.ntmps28
              go_wp2_with fail
              go_ret
              exact ⟨by rw [HM.out]; rfl, hb⟩
            · have HM : Hid (mayP ⟨q, k, f, v⟩ = false) := mayP_no (by simp only; omega)
              have d : decide (k ≤ 2) = false := by simpa using h6
              clear h6
              go_enter Try.func28, Try.ntmps28
              go_wp2_with fail
              go_ret
              exact ⟨by rw [HM.out]; rfl, hb⟩
          · have HM : Hid (mayP ⟨q, k, f, v⟩ = false) := mayP_no (by simp only; omega)
            have d : decide (0 ≤ k) = false := by simpa using h5
            clear h5
            go_enter Try.func28, Try.ntmps28
            go_wp2_with fail
            go_ret
            exact ⟨by rw [HM.out]; rfl, hb⟩
        · have HM : Hid (mayP ⟨q, k, f, v⟩ = false) := mayP_no (by simp only; omega)
          have d : decide (f ≤ 1000000) = false := by simpa using h4
          clear h4
          go_enter Try.func28, Try.ntmps28
          go_wp2_with fail
          go_ret
          exact ⟨by rw [HM.out]; rfl, hb⟩
      · have HM : Hid (mayP ⟨q, k, f, v⟩ = false) := mayP_no (by simp only; omega)
        have d : decide (0 ≤ f) = false := by simpa using h3
        clear h3
        go_enter Try.func28, Try.ntmps28
        go_wp2_with fail
        go_ret
        exact ⟨by rw [HM.out]; rfl, hb⟩
    · have HM : Hid (mayP ⟨q, k, f, v⟩ = false) := mayP_no (by simp only; omega)
      have d : decide (q ≤ 1000000) = false := by simpa using h2
      clear h2
      go_enter Try.func28, Try.ntmps28
      go_wp2_with fail
      go_ret
      exact ⟨by rw [HM.out]; rfl, hb⟩
  · have HM : Hid (mayP ⟨q, k, f, v⟩ = false) := mayP_no (by simp only; omega)
    have d : decide (0 ≤ q) = false := by simpa using h1
    clear h1
    go_enter Try.func28, Try.ntmps28
    go_wp2_with fail
    go_ret
    exact ⟨by rw [HM.out]; rfl, hb⟩
theorem u_framesR : Try.prog.underlying 47 = some (.slice (Try.prog.elem 47)) := by kernel_rfl
theorem ne_f {a b : Int} (h : a = b) : (a != b) = false := by simpa using h
theorem fm_at {w : World} {A : Option Addr} {n c : Nat} {F : List Fm} (h : SlG w A n c 4 fmC F) {k : Nat} (hk : k < n) : ∃ b o, A = some ⟨b, o, none⟩ ∧ b < w.heap.size ∧ w.cell? ⟨b, o + k * 4, none⟩ = some (.int .i64 (atD fm0 F k).r) ∧ w.cell? ⟨b, o + k * 4 + 1, none⟩ = some (.int .i64 (atD fm0 F k).m) ∧ w.cell? ⟨b, o + k * 4 + 2, none⟩ = some (.int .i64 (atD fm0 F k).d) ∧ w.cell? ⟨b, o + k * 4 + 3, none⟩ = some (.int .i64 (atD fm0 F k).c) := by
  obtain ⟨b, o, e, hb, hc⟩ := h.at_ fm0 hk
  exact ⟨b, o, e, hb, hc 0 _ rfl, hc 1 _ rfl, hc 2 _ rfl, hc 3 _ rfl⟩
/-- the document's Same on frames, of like frames -/
theorem sameR_any {w : World} {A : Option Addr} {n c : Nat} {F : List Fm} (h : SlG w A n c 4 fmC F) {B : Option Addr} {d : Nat} (h2 : SlG w B n d 4 fmC F) :
    Calls Try.prog 20 #[.slice A n c, .slice B n d] w fun e w' => e = .returned (.bool true) ∧ ∃ q, w' = w.drewN q := by
  have hn := h.len
  go_enter Try.func20, Try.ntmps20
  go_wp2_with fail
  go_loopw [5] (fun i wr => ∃ k : Nat, k ≤ n ∧ i = .int .i64 k ∧ ∃ q, wr = w.drewN q) (fun i _ => n - (intOf i).toNat)
  case atStart => exact ⟨0, Nat.zero_le _, rfl, 0, rfl⟩
  case round =>
    obtain ⟨k, hk, rfl, q, rfl⟩ := hrel
    by_cases hlt : k < n
    · obtain ⟨b, o, rfl, hb, c0, c1, c2, c3⟩ := fm_at h hlt
      obtain ⟨b', o', rfl, hb', d0, d1, d2, d3⟩ := fm_at h2 hlt
      generalize atD fm0 F k = x at c0 c1 c2 c3 d0 d1 d2 d3
      go_wp2_with fail
      go_quiet (fail)
      go_wp2_with fail
      exact ⟨⟨k + 1, by omega, by go_num, _, rfl⟩, by simp [intOf]; omega⟩
    · obtain rfl : k = n := by omega
      go_wp2_with fail
      go_ret
      exact ⟨rfl, _, rfl⟩
end Go.Proofs.Ytolohbgfhledoaa
