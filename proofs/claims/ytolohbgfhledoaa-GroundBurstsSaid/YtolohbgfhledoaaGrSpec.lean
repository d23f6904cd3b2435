/- Packets: the plain law. No program here. -/
import Derived.Test.YtolohbgfhledoaaRdSpec
import Derived.Test.YtolohbgfhledoaaDigSpec
import Derived.Test.YtolohbgfhledoaaRdInv
namespace Go.Proofs.Ytolohbgfhledoaa
structure Pk where
  (q k f v : Int)
deriving DecidableEq
def Pk.ok (p : Pk) : Prop := i64 p.q ∧ i64 p.k ∧ i64 p.f ∧ i64 p.v
def Pk.val (p : Pk) : Value := .agg #[.int .i64 p.q, .int .i64 p.k, .int .i64 p.f, .int .i64 p.v]
/-- a packet may be -/
def mayP (p : Pk) : Bool := decide (0 ≤ p.q) && decide (p.q ≤ 1000000) && decide (0 ≤ p.f) && decide (p.f ≤ 1000000) && decide (0 ≤ p.k) && decide (p.k < 3)
theorem mayP_iff {p : Pk} : mayP p = true ↔ (0 ≤ p.q ∧ p.q ≤ 1000000) ∧ (0 ≤ p.f ∧ p.f ≤ 1000000) ∧ 0 ≤ p.k ∧ p.k < 3 := by
  unfold mayP
  simp only [Bool.and_eq_true, decide_eq_true_eq]
  omega
theorem mayP_no {p : Pk} (h : ¬ ((0 ≤ p.q ∧ p.q ≤ 1000000) ∧ (0 ≤ p.f ∧ p.f ≤ 1000000) ∧ 0 ≤ p.k ∧ p.k < 3)) : mayP p = false := by
  cases e : mayP p with
  | false => rfl
  | true => exact absurd (mayP_iff.1 e) h
/-- a packet's bytes without their sum -/
def plB (p : Pk) : List UInt8 := 165 :: (vint p.q ++ vint p.k ++ vint p.f ++ vint p.v)
def lowB (x : Nat) : List UInt8 := [ob (x % 256), ob (x / 256 % 256), ob (x / 65536 % 256), ob (x / 16777216 % 256)]
def packB (p : Pk) : List UInt8 := plB p ++ lowB (crc (plB p))
theorem plB_len (p : Pk) : 5 ≤ (plB p).length ∧ (plB p).length ≤ 45 := by
  have h1 := vint_len p.q; have h2 := vint_len p.k; have h3 := vint_len p.f; have h4 := vint_len p.v
  unfold plB
  simp only [List.length_cons, List.length_append]
  omega
theorem lowB_len (x : Nat) : (lowB x).length = 4 := rfl
theorem packB_len (p : Pk) : (packB p).length = (plB p).length + 4 := by unfold packB; rw [List.length_append, lowB_len]
def pk0 : Pk := ⟨0, 0, 0, 0⟩
/-- four numbers read -/
def g4 (r : List UInt8) : Pk × RS :=
  (⟨(gInt ⟨r, 0⟩).1, (gInt (gInt ⟨r, 0⟩).2).1, (gInt (gInt (gInt ⟨r, 0⟩).2).2).1, (gInt (gInt (gInt (gInt ⟨r, 0⟩).2).2).2).1⟩, (gInt (gInt (gInt (gInt ⟨r, 0⟩).2).2).2).2)
/-- the packet with which bytes begin -/
def takeP (b : List UInt8) : Pk × Nat × Int :=
  match b with
  | [] => (pk0, 0, 10)
  | x :: r => if x.toNat = 165 then
      (if (g4 r).2.e ≠ 0 then (pk0, 0, (g4 r).2.e) else if (g4 r).2.l.length < 4 then (pk0, 0, 10)
       else if (g4 r).2.l.take 4 = lowB (crc (plB (g4 r).1)) ∧ mayP (g4 r).1 = true then ((g4 r).1, (plB (g4 r).1).length + 4, 0) else (pk0, 0, 12))
    else (pk0, 0, 12)
theorem g4_of {p : Pk} (hp : p.ok) (s : List UInt8) : g4 (vint p.q ++ vint p.k ++ vint p.f ++ vint p.v ++ s) = (p, ⟨s, 0⟩) := by
  obtain ⟨h1, h2, h3, h4⟩ := hp
  unfold g4
  rw [show vint p.q ++ vint p.k ++ vint p.f ++ vint p.v ++ s = vint p.q ++ (vint p.k ++ (vint p.f ++ (vint p.v ++ s))) by simp, gInt_vint h1]
  simp only
  rw [gInt_vint h2]
  simp only
  rw [gInt_vint h3]
  simp only
  rw [gInt_vint h4]
theorem g4_inv {r : List UInt8} (h : (g4 r).2.e = 0) : r = vint (g4 r).1.q ++ vint (g4 r).1.k ++ vint (g4 r).1.f ++ vint (g4 r).1.v ++ (g4 r).2.l := by
  unfold g4 at h ⊢
  simp only at h ⊢
  obtain ⟨e4, l4⟩ := gInt_inv h
  obtain ⟨e3, l3⟩ := gInt_inv e4
  obtain ⟨e2, l2⟩ := gInt_inv e3
  obtain ⟨e1, l1⟩ := gInt_inv e2
  simp only at l1
  conv => lhs; rw [l1, l2, l3, l4]
  simp
theorem g4_ok (r : List UInt8) (hr : ∀ s, i64 (gInt s).1) : (g4 r).1.ok := ⟨hr _, hr _, hr _, hr _⟩
/-- what is packed is taken, whatever is behind -/
theorem takeP_packB {p : Pk} (hp : p.ok) (hm : mayP p = true) (s : List UInt8) : takeP (packB p ++ s) = (p, (packB p).length, 0) := by
  have e : packB p ++ s = 165 :: (vint p.q ++ vint p.k ++ vint p.f ++ vint p.v ++ (lowB (crc (plB p)) ++ s)) := by simp [packB, plB]
  rw [e]
  simp only [takeP]
  rw [g4_of hp]
  rw [if_pos (by decide), if_neg (by simp), if_neg (by simp [lowB_len]), if_pos ⟨by rw [List.take_append_of_le_length (by rw [lowB_len]; exact Nat.le_refl _), List.take_of_length_le (by rw [lowB_len]; exact Nat.le_refl _)], hm⟩, packB_len]
/-- what is taken begins with the packet's bytes -/
theorem takeP_ok {b : List UInt8} (h : (takeP b).2.2 = 0) : ∃ s, b = packB (takeP b).1 ++ s ∧ (takeP b).2.1 = (packB (takeP b).1).length ∧ mayP (takeP b).1 = true := by
  cases b with
  | nil => simp [takeP] at h
  | cons x r =>
    simp only [takeP] at h ⊢
    by_cases hx : x.toNat = 165
    · rw [if_pos hx] at h ⊢
      by_cases he : (g4 r).2.e = 0
      · rw [if_neg (by simpa using he)] at h ⊢
        by_cases hl : (g4 r).2.l.length < 4
        · rw [if_pos hl] at h; simp at h
        · rw [if_neg hl] at h ⊢
          by_cases hs : (g4 r).2.l.take 4 = lowB (crc (plB (g4 r).1)) ∧ mayP (g4 r).1 = true
          · rw [if_pos hs]
            simp only
            refine ⟨(g4 r).2.l.drop 4, ?_, by rw [packB_len], hs.2⟩
            have hx2 : x = 165 := UInt8.toNat_inj.1 (by rw [hx]; rfl)
            have := g4_inv he
            rw [hx2]
            unfold packB
            rw [← hs.1, List.append_assoc, List.take_append_drop]
            unfold plB
            rw [List.cons_append, ← this]
          · rw [if_neg hs] at h; simp at h
      · rw [if_pos he] at h
        simp only at h
        exact absurd h he
    · rw [if_neg hx] at h; simp at h
end Go.Proofs.Ytolohbgfhledoaa
