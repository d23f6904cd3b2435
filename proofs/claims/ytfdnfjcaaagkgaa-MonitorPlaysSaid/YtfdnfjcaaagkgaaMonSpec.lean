/- Faults and what is done about them: the plain law. No program here. -/
import Derived.Test.YtfdnfjcaaagkgaaBase
namespace Go.Proofs.Ytfdnfjcaaagkgaa
structure Flt where
  (kind proc : Int)
def Flt.ok (x : Flt) : Prop := i64 x.kind ∧ i64 x.proc
def fltC (x : Flt) : List Value := [.int .i64 x.kind, .int .i64 x.proc]
/-- a number is a kind -/
def isB (n : Int) : Bool := decide (0 ≤ n) && decide (n < 5)
theorem isB_iff {n : Int} : isB n = true ↔ 0 ≤ n ∧ n < 5 := by simp [isB]
theorem isB_yes {n : Int} (h : 0 ≤ n) (k : n < 5) : isB n = true := isB_iff.2 ⟨h, k⟩
theorem isB_no {n : Int} (h : ¬ (0 ≤ n ∧ n < 5)) : isB n = false := by
  cases e : isB n with
  | false => rfl
  | true => exact absurd (isB_iff.1 e) h
/-- what a kind's line says -/
def actN (l : List Int) (k : Nat) : Int := if k < l.length ∧ isB (at0 l k) = true then at0 l k else 0
/-- what is done about a number -/
def rAct (l : List Int) (k : Int) : Int := if isB k = true then actN l k.toNat else -1
theorem rAct_yes (l : List Int) (k : Nat) (h : k < 5) : rAct l k = actN l k := by
  unfold rAct
  rw [if_pos (isB_yes (by omega) (by omega))]
  simp
theorem rAct_no (l : List Int) {k : Int} (h : isB k = false) : rAct l k = -1 := by
  unfold rAct
  rw [h]
  rfl
theorem actN_rng (l : List Int) (k : Nat) : 0 ≤ actN l k ∧ actN l k < 5 := by
  unfold actN
  split
  · rename_i h
    exact isB_iff.1 h.2
  · omega
theorem rAct_rng (l : List Int) (k : Int) : -1 ≤ rAct l k ∧ rAct l k < 5 := by
  unfold rAct
  split
  · have := actN_rng l k.toNat
    omega
  · omega
theorem rAct_nn (l : List Int) (k : Int) : 0 ≤ rAct l k ↔ isB k = true := by
  unfold rAct
  split
  · rename_i h
    have := actN_rng l k.toNat
    simp only [h, iff_true]
    omega
  · rename_i h
    simp only [h]
    simp
/-- how many there were of a kind -/
def cntF (L : List Flt) (j : Int) : Nat := (L.filter fun f => f.kind == j).length
theorem cnt_snoc (L : List Flt) (f : Flt) (j : Int) : cntF (L ++ [f]) j = cntF L j + if f.kind = j then 1 else 0 := by
  unfold cntF
  by_cases h : f.kind = j <;> simp [h]
theorem cnt_le (L : List Flt) (j : Int) : cntF L j ≤ L.length := List.length_filter_le _ _
def lastK (L : List Flt) : Int := (L.getLast?.map Flt.kind).getD (-1)
def lastP (L : List Flt) : Int := (L.getLast?.map Flt.proc).getD (-1)
theorem lastK_snoc (L : List Flt) (f : Flt) : lastK (L ++ [f]) = f.kind := by simp [lastK]
theorem lastP_snoc (L : List Flt) (f : Flt) : lastP (L ++ [f]) = f.proc := by simp [lastP]
/-- those that are heard -/
def heard (l : List Flt) : List Flt := l.filter fun f => isB f.kind
theorem heard_snoc (l : List Flt) (f : Flt) : heard (l ++ [f]) = heard l ++ (if isB f.kind then [f] else []) := by
  unfold heard
  by_cases h : isB f.kind <;> simp [h]
theorem heard_mem {l : List Flt} {f : Flt} (h : f ∈ heard l) : f ∈ l ∧ isB f.kind = true := by
  unfold heard at h
  simpa using h
theorem heard_len (l : List Flt) : (heard l).length ≤ l.length := List.length_filter_le _ _
/-- all kinds' are all -/
theorem cnt_sum {L : List Flt} (h : ∀ f ∈ L, isB f.kind = true) : cntF L 0 + cntF L 1 + cntF L 2 + cntF L 3 + cntF L 4 = L.length := by
  induction L with
  | nil => rfl
  | cons f L ih =>
    have hf := isB_iff.1 (h f (by simp))
    have := ih (fun g hg => h g (by simp [hg]))
    have hc : ∀ j, cntF (f :: L) j = (if f.kind = j then 1 else 0) + cntF L j := fun j => by
      unfold cntF
      by_cases e : f.kind = j <;> simp [e]
      omega
    rw [hc, hc, hc, hc, hc, List.length_cons, ← this]
    have : f.kind = 0 ∨ f.kind = 1 ∨ f.kind = 2 ∨ f.kind = 3 ∨ f.kind = 4 := by omega
    rcases this with e | e | e | e | e <;> simp [e] <;> omega
/-- the cells of a monitor -/
def mc (a c : Nat → Int) (k p : Int) : Array Value :=
  #[.int .i64 (a 0), .int .i64 (c 0), .int .i64 (a 1), .int .i64 (c 1), .int .i64 (a 2), .int .i64 (c 2), .int .i64 (a 3), .int .i64 (c 3), .int .i64 (a 4), .int .i64 (c 4), .int .i64 k, .int .i64 p, .bool true]
theorem five {k : Nat} (h : k < 5) : k = 0 ∨ k = 1 ∨ k = 2 ∨ k = 3 ∨ k = 4 := by omega
theorem mc_act (a c : Nat → Int) (x p : Int) {k : Nat} (h : k < 5) : (mc a c x p)[k * 2]? = some (.int .i64 (a k)) := by
  rcases five h with rfl | rfl | rfl | rfl | rfl <;> rfl
theorem mc_cnt (a c : Nat → Int) (x p : Int) {k : Nat} (h : k < 5) : (mc a c x p)[k * 2 + 1]? = some (.int .i64 (c k)) := by
  rcases five h with rfl | rfl | rfl | rfl | rfl <;> rfl
def upTo (a : Nat → Int) (k j : Nat) : Int := if j < k then a j else 0
theorem mc_set_act (a c : Nat → Int) (x p : Int) {k : Nat} (h : k < 5) : (mc (upTo a k) c x p).setIfInBounds (k * 2) (.int .i64 (a k)) = mc (upTo a (k + 1)) c x p := by
  rcases five h with rfl | rfl | rfl | rfl | rfl <;> rfl
theorem mc_skip (a c : Nat → Int) (x p : Int) {k : Nat} (h : k < 5) (h0 : a k = 0) : mc (upTo a k) c x p = mc (upTo a (k + 1)) c x p := by
  rcases five h with rfl | rfl | rfl | rfl | rfl <;> simp [mc, upTo, h0]
theorem mc_all (a c : Nat → Int) (x p : Int) : mc (upTo a 5) c x p = mc a c x p := rfl
def inc (c : Nat → Int) (k j : Nat) : Int := if j = k then c j + 1 else c j
theorem mc_set_cnt (a c : Nat → Int) (x p : Int) {k : Nat} (h : k < 5) (y q : Int) : (((mc a c x p).setIfInBounds (k * 2 + 1) (.int .i64 (c k + 1))).setIfInBounds 10 (.int .i64 y)).setIfInBounds 11 (.int .i64 q) = mc a (inc c k) y q := by
  rcases five h with rfl | rfl | rfl | rfl | rfl <;> rfl
theorem mc_congr {a c c' : Nat → Int} {x p : Int} (h : ∀ j, j < 5 → c j = c' j) : mc a c x p = mc a c' x p := by
  simp only [mc, h 0 (by decide), h 1 (by decide), h 2 (by decide), h 3 (by decide), h 4 (by decide)]
def cntN (L : List Flt) (j : Nat) : Int := cntF L j
theorem inc_cnt (L : List Flt) (f : Flt) {k : Nat} (hk : f.kind = k) (j : Nat) : inc (cntN L) k j = cntN (L ++ [f]) j := by
  unfold inc cntN
  rw [cnt_snoc, hk]
  by_cases h : j = k
  · subst h; simp
  · have h' : ¬ (k : Int) = (j : Int) := by omega
    simp [h, h']
end Go.Proofs.Ytfdnfjcaaagkgaa
