/- The plain law of bursts: a sum's register is stpN of the bytes as one number; turned bits add a multiple of a power of two. No program here. -/
import Derived.Test.YtolohbgfhledoaaDigSpec
namespace Go.Proofs.Ytolohbgfhledoaa
/-- bytes as one number, the first the least -/
def num : List UInt8 → Nat
  | [] => 0
  | x :: l => x.toNat ^^^ 256 * num l
theorem stp_two (y : Nat) : stp (2 * y) = y := by
  unfold stp
  rw [if_neg (by omega)]
  omega
theorem stpN_pow (k y : Nat) : stpN k (2 ^ k * y) = y := by
  induction k generalizing y with
  | zero => simp [stpN]
  | succ k ih =>
    rw [stpN, show 2 ^ (k + 1) * y = 2 ^ k * (2 * y) by rw [Nat.pow_succ, Nat.mul_assoc], ih, stp_two]
theorem stpN_add (a b r : Nat) : stpN (a + b) r = stpN a (stpN b r) := by
  induction a with
  | zero => simp [stpN]
  | succ a ih => rw [show a + 1 + b = (a + b) + 1 by omega, stpN, stpN, ih]
theorem crcL_num (r : Nat) (l : List UInt8) : crcL r l = stpN (8 * l.length) (r ^^^ num l) := by
  induction l generalizing r with
  | nil => simp [crcL, num, stpN]
  | cons x l ih =>
    rw [show crcL r (x :: l) = crcL (tak r x.toNat) l from rfl, ih, List.length_cons, show 8 * (l.length + 1) = 8 * l.length + 8 by omega, stpN_add]
    congr 1
    rw [show num (x :: l) = x.toNat ^^^ 256 * num l from rfl]
    unfold tak
    rw [← Nat.xor_assoc, stpN_xor _ (256 * num l), show 256 * num l = 2 ^ 8 * num l from rfl, stpN_pow]
theorem num_set (l : List UInt8) (i j : Nat) (hi : i < l.length) (x : UInt8) (hx : x.toNat = (atB l i).toNat ^^^ 2 ^ j) : num (l.set i x) = num l ^^^ 2 ^ (8 * i + j) := by
  induction l generalizing i with
  | nil => simp at hi
  | cons y l ih =>
    cases i with
    | zero =>
      simp only [List.set_cons_zero, num]
      rw [hx, show atB (y :: l) 0 = y by simp [atB]]
      simp only [Nat.mul_zero, Nat.zero_add]
      rw [Nat.xor_assoc, Nat.xor_comm (2 ^ j), ← Nat.xor_assoc]
    | succ i =>
      simp only [List.set_cons_succ, num]
      rw [ih i (by simpa using hi) (by rw [hx]; simp [atB])]
      rw [Nat.xor_assoc]
      congr 1
      have h := Nat.shiftLeft_xor_distrib (a := num l) (b := 2 ^ (8 * i + j)) (i := 8)
      rw [Nat.shiftLeft_eq, Nat.shiftLeft_eq, Nat.shiftLeft_eq] at h
      rw [Nat.mul_comm, show (256 : Nat) = 2 ^ 8 from rfl, h, Nat.mul_comm (num l), ← Nat.pow_add]
      congr 2
      omega
/-- l is b, turned by the bits B at place f on -/
def turned (b l : List UInt8) (f B : Nat) : Prop := l.length = b.length ∧ num l = num b ^^^ 2 ^ f * B
theorem turned_refl (b : List UInt8) (f : Nat) : turned b b f 0 := ⟨rfl, by simp⟩
theorem turned_more {b l : List UInt8} {f k B : Nat} (h : turned b l f B) (hk : (f + k) / 8 < b.length) {x : UInt8} (hx : x.toNat = (atB l ((f + k) / 8)).toNat ^^^ 2 ^ ((f + k) % 8)) : turned b (l.set ((f + k) / 8) x) f (B ^^^ 2 ^ k) := by
  refine ⟨by rw [List.length_set, h.1], ?_⟩
  rw [num_set l _ _ (by rw [h.1]; exact hk) x hx, h.2, Nat.xor_assoc]
  congr 1
  have h2 := Nat.shiftLeft_xor_distrib (a := B) (b := 2 ^ k) (i := f)
  rw [Nat.shiftLeft_eq, Nat.shiftLeft_eq, Nat.shiftLeft_eq] at h2
  rw [Nat.mul_comm (2 ^ f) (B ^^^ 2 ^ k), h2, Nat.mul_comm B, ← Nat.pow_add]
  congr 2
  omega
theorem more_lt {B k : Nat} (h : B < 2 ^ k) : B ^^^ 2 ^ k < 2 ^ (k + 1) := Nat.xor_lt_two_pow (Nat.lt_of_lt_of_le h (Nat.pow_le_pow_right (by decide) (by omega))) (Nat.pow_lt_pow_right (by decide) (by omega))
theorem xor_eq_zero' {a b : Nat} (h : a ^^^ b = 0) : a = b := by
  have := congrArg (· ^^^ b) h
  simpa [Nat.xor_assoc] using this
theorem more_ne {B k : Nat} (h : B < 2 ^ k) : B ^^^ 2 ^ k ≠ 0 := fun e => by have := xor_eq_zero' e; omega
theorem turned_crc {b l : List UInt8} {f B : Nat} (h : turned b l f B) (hf : f ≤ 8 * b.length) (hB : B < 4294967296) : (crc l = crc b) ↔ B = 0 := by
  have h1 : crcL M32 l ^^^ crcL M32 b = stpN (8 * b.length - f) B := by
    rw [crcL_num, crcL_num, h.1, ← stpN_xor, h.2]
    rw [show M32 ^^^ (num b ^^^ 2 ^ f * B) ^^^ (M32 ^^^ num b) = 2 ^ f * B by
      rw [← Nat.xor_assoc M32, Nat.xor_comm _ (M32 ^^^ num b), ← Nat.xor_assoc, Nat.xor_self, Nat.zero_xor]]
    rw [show 8 * b.length = (8 * b.length - f) + f by omega, stpN_add, stpN_pow]
    congr 1
    omega
  constructor
  · intro he
    by_cases h0 : B = 0
    · exact h0
    · exfalso
      apply stpN_ne hB h0 (8 * b.length - f)
      rw [← h1]
      have : crcL M32 l = crcL M32 b := by
        have := congrArg (· ^^^ M32) he
        simpa [crc, Nat.xor_assoc] using this
      rw [this, Nat.xor_self]
  · rintro rfl
    have hz : ∀ k, stpN k 0 = 0 := fun k => by
      have := stpN_pow k 0
      simpa using this
    rw [hz] at h1
    unfold crc
    rw [xor_eq_zero' h1]
end Go.Proofs.Ytolohbgfhledoaa
