/- The walks of the reader of numbers (package wire), second part: Int, Bool, Err, End, Read. -/
import Derived.Test.YtolohbgfhledoaaRdWalks
namespace Go.Proofs.Ytolohbgfhledoaa
open Go.RowKit
theorem rdW_lt {l : List UInt8} {k acc u : Nat} {r : List UInt8} (hk : k ≤ 9) (hacc : acc < 128 ^ k) (h : rdW l k acc = .ok u r) : u < 18446744073709551616 := by
  induction l generalizing k acc with
  | nil => simp [rdW] at h
  | cons y l ih =>
    rw [rdW] at h
    split at h
    · rename_i hok
      obtain ⟨h9, _⟩ := okB_u hok
      have hy := u8_lt y
      have hb : acc + y.toNat % 128 * 128 ^ k < 128 ^ (k + 1) := by
        rw [Nat.pow_succ, Nat.mul_comm (128 ^ k) 128]
        have : y.toNat % 128 * 128 ^ k ≤ 127 * 128 ^ k := Nat.mul_le_mul_right _ (by omega)
        omega
      split at h
      · cases h
        by_cases hk9 : k = 9
        · subst hk9
          have h1 := h9 rfl
          have h2 : y.toNat % 128 * 128 ^ 9 ≤ 1 * 128 ^ 9 := Nat.mul_le_mul_right _ (by omega)
          have e9 : (128 : Nat) ^ 9 = 9223372036854775808 := by decide
          rw [e9] at h2 hacc ⊢
          omega
        · have : (128 : Nat) ^ (k + 1) ≤ 128 ^ 9 := Nat.pow_le_pow_right (by decide) (by omega)
          have e9 : (128 : Nat) ^ 9 = 9223372036854775808 := by decide
          rw [e9] at this
          omega
      · have hk9 : k ≠ 9 := fun h => by have := h9 h; omega
        exact ih (by omega) hb h
    · cases h
theorem gInt_rng (s : RS) : i64 (gInt s).1 := by
  unfold gInt
  split
  · unfold i64; simp
  · split
    · rename_i u r h
      exact unt_rng (rdW_lt (by decide) (by decide) h)
    · unfold i64; simp
    · unfold i64; simp
set_option maxRecDepth 100000 in
theorem rdInt_any {w : World} {g B : Nat} {s : RS} (h : RdSt w g B s) :
    Calls Try.prog 31 #[.pointer (some ⟨g, 0, none⟩)] w fun x w' => x = .returned (.int .i64 (gInt s).1) ∧ RdSt w' g B (gInt s).2 ∧ Fr (fun k => k = g) w w' := by
  by_cases h0 : s.e = 0
  · obtain ⟨l, e⟩ := s
    simp only at h0
    subst h0
    go_enter Try.func31, Try.ntmps31
    go_wp2_with fail
    refine (word_ok h).mono ?_
    rintro x w2 ⟨u, b, s2, rfl, hres, hr2, hf2⟩
    cases hrd : rdW l 0 0 with
    | ok v rest =>
      have hlt := rdW_lt (by decide) (by decide) hrd
      rw [hrd] at hres
      obtain ⟨rfl, rfl, rfl⟩ := hres
      have HG2 : Hid (gInt ⟨l, 0⟩ = (unt u, ⟨rest, 0⟩)) := by unfold Hid; simp [gInt, hrd]
      clear hrd
      have hr3 := hr2
      obtain ⟨A, n, c, k1, k2, k3⟩ := hr2
      have d1 : w2.cell? ⟨g, 1, none⟩ = some (.int .i64 0) := k1.cell 1
      go_wp2_with fail
      refine (back_any hlt).mono ?_
      rintro x w3 ⟨rfl, rfl⟩
      go_wp2_with fail
      go_ret
      exact ⟨by rw [HG2.out]; rfl, by rw [HG2.out]; exact hr3, hf2⟩
    | cut =>
      rw [hrd] at hres
      obtain ⟨rfl, rfl⟩ := hres
      have HG2 : Hid (gInt ⟨l, 0⟩ = (0, ⟨[], 10⟩)) := by unfold Hid; simp [gInt, hrd]
      clear hrd
      have hr3 := hr2
      obtain ⟨A, n, c, k1, k2, k3⟩ := hr2
      have d1 : w2.cell? ⟨g, 1, none⟩ = some (.int .i64 10) := k1.cell 1
      cases b with
      | true =>
        go_wp2_with fail
        go_ret
        exact ⟨by rw [HG2.out]; rfl, by rw [HG2.out]; exact hr3, hf2⟩
      | false =>
        go_wp2_with fail
        refine (fail_any hr3 12).mono ?_
        rintro x w3 ⟨rfl, hr4, hf4⟩
        rw [show errS ⟨[], 10⟩ 12 = ⟨[], 10⟩ from rfl] at hr4
        have hr5 := hr4
        obtain ⟨A3, n3, c3, m1, m2, m3⟩ := hr4
        have e1 : w3.cell? ⟨g, 1, none⟩ = some (.int .i64 10) := m1.cell 1
        go_wp2_with fail
        go_ret
        exact ⟨by rw [HG2.out]; rfl, by rw [HG2.out]; exact hr5, hf2.trans hf4⟩
    | form rest =>
      rw [hrd] at hres
      obtain ⟨rfl, rfl, rfl⟩ := hres
      have HG2 : Hid (gInt ⟨l, 0⟩ = (0, ⟨rest, 12⟩)) := by unfold Hid; simp [gInt, hrd]
      clear hrd
      go_wp2_with fail
      refine (fail_any hr2 12).mono ?_
      rintro x w3 ⟨rfl, hr4, hf4⟩
      rw [show errS ⟨rest, 0⟩ 12 = ⟨rest, 12⟩ from rfl] at hr4
      have hr5 := hr4
      obtain ⟨A3, n3, c3, m1, m2, m3⟩ := hr4
      have e1 : w3.cell? ⟨g, 1, none⟩ = some (.int .i64 12) := m1.cell 1
      go_wp2_with fail
      go_ret
      exact ⟨by rw [HG2.out]; rfl, by rw [HG2.out]; exact hr5, hf2.trans hf4⟩
  · have HG : Hid (gInt s = (0, s)) := by unfold Hid gInt; rw [if_pos h0]
    have hne : (s.e != 0) = true := by simpa using h0
    go_enter Try.func31, Try.ntmps31
    go_wp2_with fail
    refine (word_err h h0).mono ?_
    rintro x w2 ⟨rfl, hr2, hf2⟩
    have hr3 := hr2
    obtain ⟨A, n, c, k1, k2, k3⟩ := hr2
    have d1 : w2.cell? ⟨g, 1, none⟩ = some (.int .i64 s.e) := k1.cell 1
    clear h0
    go_wp2_with fail
    go_ret
    exact ⟨by rw [HG.out]; rfl, by rw [HG.out]; exact hr3, hf2⟩
theorem err_any {w : World} {g B : Nat} {s : RS} (h : RdSt w g B s) :
    Calls Try.prog 32 #[.pointer (some ⟨g, 0, none⟩)] w fun x w' => x = .returned (.int .i64 s.e) ∧ w = w' := by
  obtain ⟨A, n, c, h1, h2, h3⟩ := h
  have d1 : w.cell? ⟨g, 1, none⟩ = some (.int .i64 s.e) := h1.cell 1
  go_enter Try.func32, Try.ntmps32
  go_wp2_with fail
  go_ret
  exact ⟨rfl, rfl⟩
theorem read_any {w : World} {A : Option Addr} {n c : Nat} {l : List UInt8} (h : SlB w A n c l) (hn : n ≤ 1000000) :
    Calls Try.prog 30 #[.slice A n c] w fun x w' => ∃ g B, x = .returned (.pointer (some ⟨g, 0, none⟩)) ∧ RdSt w' g B ⟨l, 0⟩ ∧ w.heap.size ≤ g ∧ Below w.heap.size w w' := by
  go_enter Try.func30, Try.ntmps30
  go_wp2_with fail
  refine (clone_any h hn).mono ?_
  rintro e w2 ⟨v2, rfl, hown2, hb2⟩
  obtain ⟨A2, c2, rfl, hs2, -⟩ := SlB.of_own hown2
  have hb3 := hb2.alloc hb2.size (.cells #[.slice A2 n c2, .int .i64 0] 95)
  have hbk := Blk.new w2 95 #[.slice A2 n c2, .int .i64 0]
  go_wp2_with fail
  go_ret
  exact ⟨w2.heap.size, w2.heap.size + 1, rfl, ⟨A2, n, c2, hbk, hs2.keep ((Below.refl _ _).alloc (Nat.le_refl _) _), Nat.lt_succ_self _, by simp, fun b o hn e => Nat.lt_succ_of_lt (hs2.lt_ hn e)⟩, hb2.size, hb3⟩
end Go.Proofs.Ytolohbgfhledoaa
