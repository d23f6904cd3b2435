/- What was read is what is written: one number. The plain law. -/
import Derived.Test.YtolohbgfhledoaaRdSpec
namespace Go.Proofs.Ytolohbgfhledoaa
theorem ob_self (x : UInt8) : ob x.toNat = x := by
  apply UInt8.toNat_inj.1
  rw [ob_toNat (u8_lt x)]
theorem rdW_inv {l : List UInt8} {i acc u : Nat} {r : List UInt8} (hi : i ≤ 9) (h : rdW l i acc = .ok u r) : ∃ m, u = acc + m * 128 ^ i ∧ (0 < i → 0 < m) ∧ l = vb (10 - i) m ++ r := by
  induction l generalizing i acc with
  | nil => simp [rdW] at h
  | cons x l ih =>
    rw [rdW] at h
    split at h
    · rename_i hok
      obtain ⟨h9, h0⟩ := okB_u hok
      have hx := u8_lt x
      split at h
      · rename_i hlt
        cases h
        refine ⟨x.toNat, by rw [Nat.mod_eq_of_lt hlt], h0, ?_⟩
        rw [vb_last hlt, ob_self]
        rfl
      · rename_i hge
        have hi9 : i ≠ 9 := fun e => by have := h9 e; omega
        obtain ⟨m, hu, hm, hl⟩ := ih (i := i + 1) (by omega) h
        have hm0 := hm (by omega)
        refine ⟨x.toNat % 128 + 128 * m, ?_, fun _ => by omega, ?_⟩
        · rw [hu, Nat.pow_succ, Nat.add_mul, Nat.add_assoc]
          congr 1
          rw [Nat.mul_comm (128 ^ i) 128, ← Nat.mul_assoc, Nat.mul_comm m 128]
        · rw [show 10 - i = (10 - (i + 1)) + 1 by omega, vb_more (by omega), show (x.toNat % 128 + 128 * m) % 128 + 128 = x.toNat by omega, show (x.toNat % 128 + 128 * m) / 128 = m by omega, ob_self, List.cons_append, ← hl]
    · cases h
theorem gInt_inv {s : RS} (h : (gInt s).2.e = 0) : s.e = 0 ∧ s.l = vint (gInt s).1 ++ (gInt s).2.l := by
  obtain ⟨l, e⟩ := s
  by_cases h0 : e = 0
  · subst h0
    cases hr : rdW l 0 0 with
    | ok u r =>
      have hg : gInt ⟨l, 0⟩ = (unt u, ⟨r, 0⟩) := by simp [gInt, hr]
      obtain ⟨m, hu, _, hl⟩ := rdW_inv (by decide) hr
      refine ⟨rfl, ?_⟩
      rw [hg]
      simp only
      have hm : m = u := by simpa using hu.symm
      subst hm
      unfold vint
      rw [tnd_unt]
      exact hl
    | cut =>
      have hg : gInt ⟨l, 0⟩ = (0, ⟨[], 10⟩) := by simp [gInt, hr]
      rw [hg] at h
      simp at h
    | form r =>
      have hg : gInt ⟨l, 0⟩ = (0, ⟨r, 12⟩) := by simp [gInt, hr]
      rw [hg] at h
      simp at h
  · have hg : gInt ⟨l, e⟩ = (0, ⟨l, e⟩) := by unfold gInt; rw [if_pos h0]
    rw [hg] at h
    exact absurd h h0
end Go.Proofs.Ytolohbgfhledoaa
