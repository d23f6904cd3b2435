/- Reading numbers from bytes: the plain law. No program here. -/
import Derived.Test.YtolohbgfhledoaaVarSpec
namespace Go.Proofs.Ytolohbgfhledoaa
/-- what comes of reading a word: the number and what is left; the bytes end; they have another form -/
inductive Rd where
  | ok (u : Nat) (rest : List UInt8)
  | cut
  | form (rest : List UInt8)
def okB (i : Nat) (x : UInt8) : Bool := !(decide (i = 9) && decide (1 < x.toNat)) && !(decide (0 < i) && decide (x.toNat = 0))
def rdW : List UInt8 → Nat → Nat → Rd
  | [], _, _ => .cut
  | x :: r, i, acc => if okB i x then (if x.toNat < 128 then .ok (acc + x.toNat % 128 * 128 ^ i) r else rdW r (i + 1) (acc + x.toNat % 128 * 128 ^ i)) else .form r
/-- the number that stands for u -/
def unt (u : Nat) : Int := if u % 2 = 1 then -((u / 2 : Nat) : Int) - 1 else ((u / 2 : Nat) : Int)
theorem unt_tnd (n : Int) : unt (tnd n) = n := by
  unfold unt tnd
  split <;> split <;> omega
theorem tnd_unt (u : Nat) : tnd (unt u) = u := by
  unfold unt tnd
  split <;> split <;> omega
theorem unt_rng {u : Nat} (h : u < 18446744073709551616) : i64 (unt u) := by
  unfold unt i64
  split <;> omega
/-- a reader: the bytes that are left, and the first error -/
structure RS where
  (l : List UInt8) (e : Int)
/-- reading a number -/
def gInt (s : RS) : Int × RS :=
  if s.e ≠ 0 then (0, s) else
  match rdW s.l 0 0 with
  | .ok u r => (unt u, ⟨r, 0⟩)
  | .cut => (0, ⟨[], 10⟩)
  | .form r => (0, ⟨r, 12⟩)
def gBool (s : RS) : Bool × RS :=
  if s.e ≠ 0 then (false, s) else
  match s.l with
  | [] => (false, ⟨[], 10⟩)
  | x :: r => if 1 < x.toNat then (false, ⟨r, 12⟩) else (decide (x.toNat = 1), ⟨r, 0⟩)
/-- n numbers, as long as there is no error -/
def gInts : Nat → RS → List Int × RS
  | 0, s => ([], s)
  | n + 1, s => if s.e ≠ 0 then ([], s) else ((gInt s).1 :: (gInts n (gInt s).2).1, (gInts n (gInt s).2).2)
theorem okB_u {i : Nat} {x : UInt8} (h : okB i x = true) : (i = 9 → x.toNat ≤ 1) ∧ (0 < i → 0 < x.toNat) := by
  unfold okB at h
  simp only [Bool.and_eq_true, Bool.not_eq_true', Bool.and_eq_false_iff, decide_eq_false_iff_not] at h
  omega
theorem okB_of {i : Nat} {x : UInt8} (h1 : i = 9 → x.toNat ≤ 1) (h2 : 0 < i → 0 < x.toNat) : okB i x = true := by
  unfold okB
  simp only [Bool.and_eq_true, Bool.not_eq_true', Bool.and_eq_false_iff, decide_eq_false_iff_not]
  omega
/-- a word's bytes are read, whatever is behind -/
theorem rdW_vb {k u i acc : Nat} (hi : i + k ≤ 10) (hu : u < 128 ^ (k + 1)) (h0 : 0 < i → 0 < u) (h9 : u * 128 ^ i < 18446744073709551616) (s : List UInt8) : rdW (vb k u ++ s) i acc = .ok (acc + u * 128 ^ i) s := by
  induction k generalizing u i acc with
  | zero =>
    have hu' : u < 128 := by simpa using hu
    simp only [vb, List.cons_append, List.nil_append, rdW]
    rw [ob_toNat (by omega), if_pos, if_pos hu', Nat.mod_eq_of_lt hu']
    refine okB_of (fun h => ?_) (fun h => ?_)
    · subst h
      rw [ob_toNat (by omega)]
      omega
    · rw [ob_toNat (by omega)]
      exact h0 h
  | succ k ih =>
    by_cases h1 : 128 ≤ u
    · rw [vb_more h1]
      simp only [List.cons_append, rdW]
      have hi9 : i ≠ 9 := by
        intro h
        subst h
        have : 128 * 128 ^ 9 ≤ u * 128 ^ 9 := Nat.mul_le_mul_right _ h1
        omega
      rw [ob_toNat (by omega), if_pos (okB_of (fun h => absurd h hi9) (fun _ => by rw [ob_toNat (by omega)]; omega)), if_neg (by omega)]
      have hq : u / 128 * 128 ^ (i + 1) ≤ u * 128 ^ i := by
        rw [Nat.pow_succ, Nat.mul_comm (128 ^ i) 128, ← Nat.mul_assoc]
        exact Nat.mul_le_mul_right _ (Nat.div_mul_le_self u 128)
      rw [ih (u := u / 128) (i := i + 1) (by omega) (Nat.div_lt_of_lt_mul (by rw [Nat.mul_comm, ← Nat.pow_succ]; exact hu)) (fun _ => by omega) (by omega)]
      congr 1
      rw [show (u % 128 + 128) % 128 = u % 128 by omega, Nat.pow_succ, Nat.mul_comm (128 ^ i) 128, ← Nat.mul_assoc, Nat.add_assoc, ← Nat.add_mul]
      congr 2
      omega
    · rw [vb_last (by omega)]
      simp only [List.cons_append, List.nil_append, rdW]
      rw [ob_toNat (by omega), if_pos, if_pos (by omega), Nat.mod_eq_of_lt (by omega)]
      refine okB_of (fun h => ?_) (fun h => ?_)
      · subst h
        rw [ob_toNat (by omega)]
        omega
      · rw [ob_toNat (by omega)]
        exact h0 h
theorem gInt_vint {n : Int} (hn : i64 n) (s : List UInt8) : gInt ⟨vint n ++ s, 0⟩ = (n, ⟨s, 0⟩) := by
  have hlt := tnd_lt hn
  unfold gInt vint
  rw [if_neg (by simp), rdW_vb (by decide) (Nat.lt_of_lt_of_le hlt (by decide)) (fun h => absurd h (by decide)) (by simpa using hlt)]
  simp [unt_tnd]
end Go.Proofs.Ytolohbgfhledoaa
