/- Numbers as bytes, seven bits a byte, the least first: the plain law. No program here. -/
import Derived.Test.YtpgglefimdllbaaBase
namespace Go.Proofs.Ytpgglefimdllbaa
/-- a number so that it is not below 0 -/
def tnd (n : Int) : Nat := if n < 0 then ((-(n + 1)) * 2 + 1).toNat else (n * 2).toNat
theorem tnd_lt {n : Int} (h : i64 n) : tnd n < 18446744073709551616 := by
  unfold i64 at h
  unfold tnd
  split <;> omega
theorem tnd_inj {a b : Int} (h : tnd a = tnd b) : a = b := by
  unfold tnd at h
  split at h <;> split at h <;> omega
def ob (n : Nat) : UInt8 := UInt8.ofNat n
theorem ob_toNat {n : Nat} (h : n < 256) : (ob n).toNat = n := by
  unfold ob
  rw [UInt8.toNat_ofNat']
  omega
/-- a number's bytes, at most k + 1 of them -/
def vb : Nat → Nat → List UInt8
  | 0, u => [ob u]
  | k + 1, u => if 128 ≤ u then ob (u % 128 + 128) :: vb k (u / 128) else [ob u]
def vint (n : Int) : List UInt8 := vb 10 (tnd n)
theorem vb_more {k u : Nat} (h : 128 ≤ u) : vb (k + 1) u = ob (u % 128 + 128) :: vb k (u / 128) := by rw [vb, if_pos h]
theorem vb_last {k u : Nat} (h : u < 128) : vb k u = [ob u] := by
  cases k with
  | zero => rfl
  | succ k => rw [vb, if_neg (by omega)]
theorem vb_pos (k u : Nat) : 0 < (vb k u).length := by
  cases k with
  | zero => simp [vb]
  | succ k => unfold vb; split <;> simp
theorem vb_len (k u : Nat) : (vb k u).length ≤ k + 1 := by
  induction k generalizing u with
  | zero => simp [vb]
  | succ k ih => unfold vb; split <;> simp; exact ih _
theorem vint_len (n : Int) : 0 < (vint n).length ∧ (vint n).length ≤ 11 := ⟨vb_pos _ _, vb_len _ _⟩
/-- bytes of a number and what stands behind them can be told apart -/
theorem vb_cut {k u v : Nat} (hu : u < 128 ^ (k + 1)) (hv : v < 128 ^ (k + 1)) {s t : List UInt8} (h : vb k u ++ s = vb k v ++ t) : u = v ∧ s = t := by
  induction k generalizing u v with
  | zero =>
    simp only [vb, List.cons_append, List.nil_append, List.cons.injEq] at h
    have h1 := congrArg UInt8.toNat h.1
    rw [ob_toNat (by omega), ob_toNat (by omega)] at h1
    exact ⟨h1, h.2⟩
  | succ k ih =>
    have hu' : u / 128 < 128 ^ (k + 1) := Nat.div_lt_of_lt_mul (by rw [Nat.mul_comm, ← Nat.pow_succ]; exact hu)
    have hv' : v / 128 < 128 ^ (k + 1) := Nat.div_lt_of_lt_mul (by rw [Nat.mul_comm, ← Nat.pow_succ]; exact hv)
    by_cases h1 : 128 ≤ u <;> by_cases h2 : 128 ≤ v
    · rw [vb_more h1, vb_more h2] at h
      simp only [List.cons_append, List.cons.injEq] at h
      have h3 := congrArg UInt8.toNat h.1
      rw [ob_toNat (by omega), ob_toNat (by omega)] at h3
      obtain ⟨h4, h5⟩ := ih hu' hv' h.2
      exact ⟨by omega, h5⟩
    · rw [vb_more h1, vb_last (u := v) (by omega)] at h
      simp only [List.cons_append, List.nil_append, List.cons.injEq] at h
      have h3 := congrArg UInt8.toNat h.1
      rw [ob_toNat (by omega), ob_toNat (by omega)] at h3
      omega
    · rw [vb_last (u := u) (by omega), vb_more h2] at h
      simp only [List.cons_append, List.nil_append, List.cons.injEq] at h
      have h3 := congrArg UInt8.toNat h.1
      rw [ob_toNat (by omega), ob_toNat (by omega)] at h3
      omega
    · rw [vb_last (u := u) (by omega), vb_last (u := v) (by omega)] at h
      simp only [List.cons_append, List.nil_append, List.cons.injEq] at h
      have h3 := congrArg UInt8.toNat h.1
      rw [ob_toNat (by omega), ob_toNat (by omega)] at h3
      exact ⟨h3, h.2⟩
theorem vint_cut {a b : Int} (ha : i64 a) (hb : i64 b) {s t : List UInt8} (h : vint a ++ s = vint b ++ t) : a = b ∧ s = t := by
  have h1 := tnd_lt ha
  have h2 := tnd_lt hb
  obtain ⟨h3, h4⟩ := vb_cut (k := 10) (u := tnd a) (v := tnd b) (Nat.lt_of_lt_of_le h1 (by decide)) (Nat.lt_of_lt_of_le h2 (by decide)) h
  exact ⟨tnd_inj h3, h4⟩
end Go.Proofs.Ytpgglefimdllbaa
