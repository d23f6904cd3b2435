/- What is stored is loaded: the plain law. No program here. -/
import Derived.Test.YtpgglefimdllbaaMemPlays
namespace Go.Proofs.Ytpgglefimdllbaa
theorem fdF_len {Ss : List Sg} {Bs Bs' : List (List UInt8)} (h : ∀ j, lnB Bs j = lnB Bs' j) (a n : Int) (wr : Bool) : fdF Ss Bs a n wr = fdF Ss Bs' a n wr := by
  unfold fdF
  simp only [h]
theorem storeR_none {Ss : List Sg} {Bs : List (List UInt8)} {a : Int} {b : List UInt8} (h : fdF Ss Bs a b.length true = none) : storeR Ss Bs a b = (Bs, false) := by unfold storeR; rw [h]
theorem storeR_some {Ss : List Sg} {Bs : List (List UInt8)} {a : Int} {b : List UInt8} {k : Nat} (h : fdF Ss Bs a b.length true = some k) : storeR Ss Bs a b = (Bs.set k (splice (atD [] Bs k) (a - (atD sg0 Ss k).ba).toNat b), true) := by unfold storeR; rw [h]
theorem storeR_is (Ss : List Sg) (Bs : List (List UInt8)) (a : Int) (b : List UInt8) : (storeR Ss Bs a b).2 = (fdF Ss Bs a b.length true).isSome := by
  cases h : fdF Ss Bs a b.length true with
  | none => rw [storeR_none h]; rfl
  | some k => rw [storeR_some h]; rfl
theorem storeR_len {Ss : List Sg} {Bs : List (List UInt8)} (hl : Bs.length = Ss.length) (a : Int) (b : List UInt8) (j : Nat) : lnB (storeR Ss Bs a b).1 j = lnB Bs j := by
  cases h : fdF Ss Bs a b.length true with
  | none => rw [storeR_none h]
  | some k =>
    rw [storeR_some h]
    obtain ⟨hk, f, m, hf, hm, hroom⟩ := fdF_room h
    have hm' : b.length = m := by omega
    show (atD [] (Bs.set k _) j).length = (atD [] Bs j).length
    rw [atD_set [] Bs k j _ (by omega)]
    by_cases hj : j = k
    · subst hj
      rw [if_pos rfl, hf, Int.toNat_natCast, splice_len (by omega)]
    · rw [if_neg hj]
theorem splice_at (l b : List UInt8) (f i : Nat) (h : f + b.length ≤ l.length) (hi : i < l.length) : atB (splice l f b) i = if f ≤ i ∧ i < f + b.length then atB b (i - f) else atB l i := by
  have ht : (l.take f).length = f := by rw [List.length_take]; omega
  unfold atB splice
  rw [List.getD_eq_getElem?_getD, List.getElem?_append, ht]
  by_cases h1 : i < f
  · rw [if_pos h1, if_neg (by omega), List.getElem?_take, if_pos h1, List.getD_eq_getElem?_getD]
  · rw [if_neg h1, List.getElem?_append]
    by_cases h2 : i < f + b.length
    · rw [if_pos (by omega), if_pos ⟨by omega, h2⟩, List.getD_eq_getElem?_getD]
    · rw [if_neg (by omega), if_neg (by omega), List.getElem?_drop, List.getD_eq_getElem?_getD, show f + b.length + (i - f - b.length) = i by omega]
/-- the bytes behind a store: those stored where they lie, else those that were. -/
theorem storeR_at {Ss : List Sg} {Bs : List (List UInt8)} (hl : Bs.length = Ss.length) {a : Int} {b : List UInt8} {k i : Nat} (hi : i < lnB Bs k) :
    (((k : Int) = fdI (fdF Ss Bs a b.length true) ∧ frI Ss a (fdF Ss Bs a b.length true) ≤ i ∧ (i : Int) < frI Ss a (fdF Ss Bs a b.length true) + b.length) → ∃ q : Nat, (i : Int) - frI Ss a (fdF Ss Bs a b.length true) = q ∧ q < b.length ∧ atB (atD [] (storeR Ss Bs a b).1 k) i = atB b q) ∧
    (¬ ((k : Int) = fdI (fdF Ss Bs a b.length true) ∧ frI Ss a (fdF Ss Bs a b.length true) ≤ i ∧ (i : Int) < frI Ss a (fdF Ss Bs a b.length true) + b.length) → atB (atD [] (storeR Ss Bs a b).1 k) i = atB (atD [] Bs k) i) := by
  cases h : fdF Ss Bs a b.length true with
  | none =>
    rw [storeR_none h]
    refine ⟨fun hh => ?_, fun _ => rfl⟩
    have := hh.1
    simp only [fdI] at this
    omega
  | some kk =>
    rw [storeR_some h]
    obtain ⟨hk, f, m, hf, hm, hroom⟩ := fdF_room h
    have hm' : b.length = m := by omega
    simp only [fdI, frI, hf, Int.toNat_natCast]
    rw [atD_set [] Bs kk k _ (by omega)]
    by_cases hkk : k = kk
    · subst hkk
      rw [if_pos rfl, splice_at _ b f i (by omega) hi]
      refine ⟨fun hh => ⟨i - f, by omega, by omega, by rw [if_pos ⟨by omega, by omega⟩]⟩, fun hh => by rw [if_neg (by omega)]⟩
    · rw [if_neg hkk]
      exact ⟨fun hh => by omega, fun _ => rfl⟩
theorem loadR_back {Ss : List Sg} {Bs : List (List UInt8)} (hl : Bs.length = Ss.length) {a : Int} {b : List UInt8} (h0 : 0 ≤ fdI (fdF Ss Bs a b.length true)) (h : fdI (fdF Ss Bs a b.length false) = fdI (fdF Ss Bs a b.length true)) : loadR Ss (storeR Ss Bs a b).1 a b.length = (b, true) := by
  cases h1 : fdF Ss Bs a b.length true with
  | none => rw [h1] at h0; simp [fdI] at h0
  | some k =>
    rw [h1] at h
    have h2 : fdF Ss Bs a b.length false = some k := by
      cases h2 : fdF Ss Bs a b.length false with
      | none => rw [h2] at h; simp only [fdI] at h; omega
      | some k2 => rw [h2] at h; simp only [fdI] at h; rw [show k2 = k by omega]
    have h3 : fdF Ss (storeR Ss Bs a b).1 a b.length false = some k := by rw [fdF_len (storeR_len hl a b), h2]
    unfold loadR
    rw [h3, storeR_some h1]
    obtain ⟨hk, f, m, hf, hm, hroom⟩ := fdF_room h1
    have hm' : b.length = m := by omega
    simp only [hf, Int.toNat_natCast]
    rw [atD_set [] Bs k k _ (by omega), if_pos rfl, take_splice _ b f (by omega)]
end Go.Proofs.Ytpgglefimdllbaa
