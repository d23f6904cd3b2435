/- The plain law of shed: levels as a function of thresholds and readings. No program here. -/
import Derived.Test.YtiglabknaldinaaBase
namespace Go.Proofs.Ytiglabknaldinaa
def low (ds : List Int) (lv r : Int) : Bool := decide (0 ≤ lv) && decide (lv < ds.length) && decide (r < at0 ds lv.toNat)
def high (us : List Int) (lv r : Int) : Bool := decide (1 ≤ lv) && decide (lv ≤ us.length) && decide (at0 us (lv.toNat - 1) ≤ r)
def nextS (ds us : List Int) (lv r : Int) : Int := if low ds lv r then lv + 1 else if high us lv r then lv - 1 else lv
def lvlAt (ds us rs : List Int) : Nat → Int
  | 0 => 0
  | k + 1 => nextS ds us (lvlAt ds us rs k) (at0 rs k)
def levelsS (ds us rs : List Int) (k : Nat) : List Int := (List.range k).map fun j => lvlAt ds us rs (j + 1)
theorem levelsS_len (ds us rs : List Int) (k : Nat) : (levelsS ds us rs k).length = k := by simp [levelsS]
theorem levelsS_succ (ds us rs : List Int) (k : Nat) : levelsS ds us rs (k + 1) = levelsS ds us rs k ++ [lvlAt ds us rs (k + 1)] := by
  simp [levelsS, List.range_succ]
theorem levelsS_getD (ds us rs : List Int) (k j : Nat) (h : j < k) : at0 (levelsS ds us rs k) j = lvlAt ds us rs (j + 1) := by
  rw [at0_lt (by simpa [levelsS] using h)]; simp [levelsS]
theorem nextS_rng (ds us : List Int) (lv r : Int) (hd : ds.length ≤ 9223372036854775807) (h : i64 lv) : i64 (nextS ds us lv r) := by
  unfold nextS low high i64 at *
  split
  · rename_i h1; simp at h1; omega
  · split
    · rename_i h1; simp at h1; omega
    · omega
theorem nextS_bd (ds us : List Int) (lv r : Int) (h : 0 ≤ lv ∧ lv ≤ ds.length) : 0 ≤ nextS ds us lv r ∧ nextS ds us lv r ≤ ds.length := by
  unfold nextS low high
  split
  · rename_i h1; simp at h1; omega
  · split
    · rename_i h1; simp at h1; omega
    · omega
theorem lvlAt_bd (ds us rs : List Int) (k : Nat) : 0 ≤ lvlAt ds us rs k ∧ lvlAt ds us rs k ≤ ds.length := by
  induction k with
  | zero => simp [lvlAt]
  | succ k ih => exact nextS_bd _ _ _ _ ih
theorem lvlAt_rng (ds us rs : List Int) (k : Nat) (hd : ds.length ≤ 9223372036854775807) : i64 (lvlAt ds us rs k) := by
  have := lvlAt_bd ds us rs k; unfold i64; omega
end Go.Proofs.Ytiglabknaldinaa
