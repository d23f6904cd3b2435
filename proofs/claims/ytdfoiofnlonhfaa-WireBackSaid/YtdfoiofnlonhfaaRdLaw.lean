/- What was written is read, and what was read is what is written: the plain law. No program here. -/
import Derived.Test.YtdfoiofnlonhfaaWireWalks
namespace Go.Proofs.Ytdfoiofnlonhfaa
open Go.RowKit
theorem gBool_vbool (b : Bool) (s : List UInt8) : gBool ⟨vbool b ++ s, 0⟩ = (b, ⟨s, 0⟩) := by
  cases b <;> rfl
theorem gInts_ints {l : List Int} (h : ∀ x ∈ l, i64 x) (s : List UInt8) : gInts l.length ⟨ints l ++ s, 0⟩ = (l, ⟨s, 0⟩) := by
  induction l with
  | nil => rfl
  | cons x l ih =>
    rw [List.length_cons, gInts_more rfl, show ints (x :: l) ++ s = vint x ++ (ints l ++ s) by simp [ints], gInt_vint (h x (by simp)), ih (fun y hy => h y (by simp [hy]))]
theorem gList_vlist {l : List Int} (h : ∀ x ∈ l, i64 x) {most : Int} (hm : (l.length : Int) ≤ most) (hl : l.length ≤ 1000000) (s : List UInt8) : gList most ⟨vlist l ++ s, 0⟩ = (l, ⟨s, 0⟩) := by
  have h1 : gInt ⟨vlist l ++ s, 0⟩ = ((l.length : Int), ⟨ints l ++ s, 0⟩) := by
    rw [show vlist l ++ s = vint l.length ++ (ints l ++ s) by simp [vlist]]
    exact gInt_vint (by unfold i64; omega) _
  have h2 : gHead most ⟨vlist l ++ s, 0⟩ = ⟨ints l ++ s, 0⟩ := by
    unfold gHead
    rw [h1, if_neg (by simp only; omega)]
  unfold gList
  rw [h2, h1]
  simp only [Int.toNat_natCast]
  rw [gInts_ints h]
  simp
theorem ob_self (x : UInt8) : ob x.toNat = x := by
  apply UInt8.toNat_inj.1
  rw [ob_toNat (u8_lt x)]
theorem rdW_inv {l : List UInt8} {i acc u : Nat} {r : List UInt8} (hi : i ≤ 9) (h : rdW l i acc = .ok u r) : ∃ m, u = acc + m * 128 ^ i ∧ (0 < i → 0 < m) ∧ l = vb (10 - i) m ++ r := by
  induction l generalizing i acc with
  | nil => simp [rdW] at h
  | cons x l ih =>
    rw [rdW] at h
    split at h
    · rename_i hok
      obtain ⟨h9, h0⟩ := okB_u hok
      have hx := u8_lt x
      split at h
      · rename_i hlt
        cases h
        refine ⟨x.toNat, by rw [Nat.mod_eq_of_lt hlt], h0, ?_⟩
        rw [vb_last hlt, ob_self]
        rfl
      · rename_i hge
        have hi9 : i ≠ 9 := fun e => by have := h9 e; omega
        obtain ⟨m, hu, hm, hl⟩ := ih (i := i + 1) (by omega) h
        have hm0 := hm (by omega)
        refine ⟨x.toNat % 128 + 128 * m, ?_, fun _ => by omega, ?_⟩
        · rw [hu, Nat.pow_succ, Nat.add_mul, Nat.add_assoc]
          congr 1
          rw [Nat.mul_comm (128 ^ i) 128, ← Nat.mul_assoc, Nat.mul_comm m 128]
        · rw [show 10 - i = (10 - (i + 1)) + 1 by omega, vb_more (by omega), show (x.toNat % 128 + 128 * m) % 128 + 128 = x.toNat by omega, show (x.toNat % 128 + 128 * m) / 128 = m by omega, ob_self, List.cons_append, ← hl]
    · cases h
theorem gInt_inv {s : RS} (h : (gInt s).2.e = 0) : s.e = 0 ∧ s.l = vint (gInt s).1 ++ (gInt s).2.l := by
  obtain ⟨l, e⟩ := s
  by_cases h0 : e = 0
  · subst h0
    cases hr : rdW l 0 0 with
    | ok u r =>
      have hg : gInt ⟨l, 0⟩ = (unt u, ⟨r, 0⟩) := by simp [gInt, hr]
      obtain ⟨m, hu, _, hl⟩ := rdW_inv (by decide) hr
      refine ⟨rfl, ?_⟩
      rw [hg]
      simp only
      have hm : m = u := by simpa using hu.symm
      subst hm
      unfold vint
      rw [tnd_unt]
      exact hl
    | cut =>
      have hg : gInt ⟨l, 0⟩ = (0, ⟨[], 10⟩) := by simp [gInt, hr]
      rw [hg] at h
      simp at h
    | form r =>
      have hg : gInt ⟨l, 0⟩ = (0, ⟨r, 12⟩) := by simp [gInt, hr]
      rw [hg] at h
      simp at h
  · have hg : gInt ⟨l, e⟩ = (0, ⟨l, e⟩) := by unfold gInt; rw [if_pos h0]
    rw [hg] at h
    exact absurd h h0
theorem gInts_inv {n : Nat} {s : RS} (h : (gInts n s).2.e = 0) : s.e = 0 ∧ (gInts n s).1.length = n ∧ s.l = ints (gInts n s).1 ++ (gInts n s).2.l := by
  induction n generalizing s with
  | zero => exact ⟨h, rfl, rfl⟩
  | succ n ih =>
    by_cases h0 : s.e = 0
    · rw [gInts_more h0] at h ⊢
      simp only at h ⊢
      obtain ⟨h1, h2, h3⟩ := ih h
      obtain ⟨h4, h5⟩ := gInt_inv h1
      refine ⟨h4, by simp [h2], ?_⟩
      rw [h5, h3]
      simp [ints]
    · rw [gInts_err h0] at h
      exact absurd h h0
theorem gList_inv {most : Int} {s : RS} (h : (gList most s).2.e = 0) : s.l = vlist (gList most s).1 ++ (gList most s).2.l := by
  have he : (gInts (gInt s).1.toNat (gHead most s)).2.e = 0 := by
    unfold gList at h
    split at h
    · rename_i hne; exact absurd h hne
    · exact h
  have hg : gList most s = gInts (gInt s).1.toNat (gHead most s) := by
    unfold gList
    rw [if_neg (by simpa using he)]
  rw [hg]
  obtain ⟨h1, h2, h3⟩ := gInts_inv he
  have hok : ¬ ((gInt s).1 < 0 ∨ most < (gInt s).1) := fun hbad => by
    unfold gHead errS at h1
    rw [if_pos hbad] at h1
    simp only at h1
    split at h1 <;> simp_all
  have hh : gHead most s = (gInt s).2 := by unfold gHead; rw [if_neg hok]
  rw [hh] at h1 h2 h3 ⊢
  obtain ⟨h4, h5⟩ := gInt_inv h1
  rw [h5]
  unfold vlist
  rw [h2, List.append_assoc, ← h3, Int.toNat_of_nonneg (by omega)]
end Go.Proofs.Ytdfoiofnlonhfaa
