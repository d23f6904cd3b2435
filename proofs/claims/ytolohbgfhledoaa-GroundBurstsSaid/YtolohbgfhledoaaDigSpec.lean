/- The plain law of digest: CRC-32 bit by bit, and that a burst of up to 32 bits turns it. No program here. -/
import Derived.Test.YtolohbgfhledoaaBase
namespace Go.Proofs.Ytolohbgfhledoaa
def poly : Nat := 3988292384
def M32 : Nat := 4294967295
/-- one bit. -/
def stp (r : Nat) : Nat := if r % 2 = 1 then (r / 2) ^^^ poly else r / 2
def stpN : Nat → Nat → Nat
  | 0, r => r
  | k + 1, r => stp (stpN k r)
def tak (r x : Nat) : Nat := stpN 8 (r ^^^ x)
def crcL (r : Nat) (l : List UInt8) : Nat := l.foldl (fun r x => tak r x.toNat) r
def crc (l : List UInt8) : Nat := crcL M32 l ^^^ M32
theorem xor32 {a b : Nat} (ha : a < 4294967296) (hb : b < 4294967296) : a ^^^ b < 4294967296 := Nat.xor_lt_two_pow (n := 32) ha hb
theorem stp_lt {r : Nat} (h : r < 4294967296) : stp r < 4294967296 := by
  unfold stp
  split
  · exact xor32 (by omega) (by decide)
  · omega
theorem stpN_lt {r : Nat} (h : r < 4294967296) : ∀ k, stpN k r < 4294967296
  | 0 => h
  | k + 1 => stp_lt (stpN_lt h k)
theorem tak_lt {r x : Nat} (h : r < 4294967296) (hx : x < 256) : tak r x < 4294967296 := stpN_lt (xor32 h (by omega)) 8
theorem crcL_lt {r : Nat} (h : r < 4294967296) : ∀ l, crcL r l < 4294967296 := by
  intro l
  induction l generalizing r with
  | nil => exact h
  | cons x l ih => exact ih (tak_lt h (u8_lt x))
theorem crc_lt (l : List UInt8) : crc l < 4294967296 := xor32 (crcL_lt (by decide) l) (by decide)
theorem crcL_snoc (r : Nat) (l : List UInt8) (x : UInt8) : crcL r (l ++ [x]) = tak (crcL r l) x.toNat := by simp [crcL]
theorem crcL_append (r : Nat) (l m : List UInt8) : crcL r (l ++ m) = crcL (crcL r l) m := by simp [crcL]
theorem take_snocB (l : List UInt8) (k : Nat) (h : k < l.length) : l.take (k + 1) = l.take k ++ [atB l k] := by
  rw [List.take_succ_eq_append_getElem h, atB_lt h]

/-! ### The step is linear -/
theorem half_xor (a b : Nat) : (a ^^^ b) / 2 = a / 2 ^^^ b / 2 := by
  have := Nat.shiftRight_xor_distrib (a := a) (b := b) (i := 1)
  simpa [Nat.shiftRight_eq_div_pow] using this
theorem odd_xor (a b : Nat) : (a ^^^ b) % 2 = (a + b) % 2 := by
  rw [show (2 : Nat) = 2 ^ 1 by rfl, Nat.xor_mod_two_pow]
  have ha : a % 2 ^ 1 = 0 ∨ a % 2 ^ 1 = 1 := by omega
  have hb : b % 2 ^ 1 = 0 ∨ b % 2 ^ 1 = 1 := by omega
  rcases ha with ha | ha <;> rcases hb with hb | hb <;> rw [ha, hb] <;> simp <;> omega
theorem stp_xor (a b : Nat) : stp (a ^^^ b) = stp a ^^^ stp b := by
  unfold stp
  rw [half_xor, odd_xor]
  by_cases ha : a % 2 = 1 <;> by_cases hb : b % 2 = 1
  · rw [if_neg (by omega), if_pos ha, if_pos hb, Nat.xor_assoc, ← Nat.xor_assoc poly, Nat.xor_comm poly (b / 2), Nat.xor_assoc, Nat.xor_self, Nat.xor_zero]
  · rw [if_pos (by omega), if_pos ha, if_neg hb, Nat.xor_assoc, Nat.xor_comm (b / 2), ← Nat.xor_assoc]
  · rw [if_pos (by omega), if_neg ha, if_pos hb, Nat.xor_assoc]
  · rw [if_neg (by omega), if_neg ha, if_neg hb]
theorem stpN_xor (a b : Nat) : ∀ k, stpN k (a ^^^ b) = stpN k a ^^^ stpN k b
  | 0 => rfl
  | k + 1 => by simp only [stpN]; rw [stpN_xor a b k, stp_xor]
/-! ### and has no other root than nought -/
theorem stp_ne {r : Nat} (h : r < 4294967296) (h0 : r ≠ 0) : stp r ≠ 0 := by
  unfold stp
  split
  · intro he
    have h1 := congrArg (fun x => Nat.testBit x 31) he
    simp only [Nat.testBit_xor, Nat.zero_testBit] at h1
    have h2 : Nat.testBit (r / 2) 31 = false := Nat.testBit_lt_two_pow (by omega)
    have h3 : Nat.testBit poly 31 = true := by decide
    rw [h2, h3] at h1
    cases h1
  · omega
theorem stpN_ne {r : Nat} (h : r < 4294967296) (h0 : r ≠ 0) : ∀ k, stpN k r ≠ 0
  | 0 => h0
  | k + 1 => stp_ne (stpN_lt h k) (stpN_ne h h0 k)
end Go.Proofs.Ytolohbgfhledoaa
