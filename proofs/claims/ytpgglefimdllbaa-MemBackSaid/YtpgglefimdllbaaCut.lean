/- x[lo:hi] of a slice that is read: its cells, and the run of the operation (the address hidden in slA). -/
import Derived.Test.YtpgglefimdllbaaGen
namespace Go.Proofs.Ytpgglefimdllbaa
open Go.RowKit
def slA (A : Option Addr) (lo c s : Nat) : Option Addr := if c = lo then A else A.map (·.add (lo * s))
section
variable {w : World} {A : Option Addr} {n c sz : Nat} {xs : List Value}
theorem Sl.cut (h : Sl w A n c sz xs) {lo hi : Nat} (h1 : lo ≤ hi) (h2 : hi ≤ n) : Sl w (slA A lo c sz) (hi - lo) (c - lo) sz ((xs.drop (lo * sz)).take ((hi - lo) * sz)) := by
  obtain ⟨hl, hnc, hcm, hnil, hat⟩ := h
  refine ⟨?_, by omega, by omega, fun hn => ?_, fun hp => ?_⟩
  · rw [List.length_take, List.length_drop, hl, ← Nat.sub_mul]
    exact Nat.min_eq_left (Nat.mul_le_mul_right _ (by omega))
  · unfold slA at hn
    split at hn
    · omega
    · cases A with
      | none => rw [hnil rfl]; omega
      | some a => simp at hn
  · obtain ⟨b, o, rfl, hb, hc⟩ := hat (by omega)
    refine ⟨b, o + lo * sz, ?_, hb, fun j u hu => ?_⟩
    · unfold slA
      rw [if_neg (by omega)]
      simp [add_none]
    · rw [List.getElem?_take] at hu
      split at hu
      · rw [List.getElem?_drop] at hu
        rw [Nat.add_assoc]
        exact hc _ u hu
      · cases hu
end
theorem flat_cut {α : Type} {f : α → List Value} {sz : Nat} (l : List α) (hf : ∀ x ∈ l, (f x).length = sz) (lo m : Nat) : ((l.flatMap f).drop (lo * sz)).take (m * sz) = ((l.drop lo).take m).flatMap f := by
  have hd : ∀ (l : List α), (∀ x ∈ l, (f x).length = sz) → ∀ lo, (l.flatMap f).drop (lo * sz) = (l.drop lo).flatMap f := by
    intro l
    induction l with
    | nil => intro _ lo; simp
    | cons x l ih =>
      intro hf lo
      cases lo with
      | zero => simp
      | succ lo =>
        have hx := hf x (by simp)
        rw [List.drop_succ_cons, List.flatMap_cons, ← ih (fun y hy => hf y (by simp [hy])) lo, List.drop_append, hx, Nat.add_mul, Nat.one_mul]
        rw [List.drop_eq_nil_of_le (by omega), List.nil_append, show lo * sz + sz - sz = lo * sz by omega]
  have ht : ∀ (l : List α), (∀ x ∈ l, (f x).length = sz) → ∀ m, (l.flatMap f).take (m * sz) = (l.take m).flatMap f := by
    intro l
    induction l with
    | nil => intro _ m; simp
    | cons x l ih =>
      intro hf m
      cases m with
      | zero => simp
      | succ m =>
        have hx := hf x (by simp)
        rw [List.take_succ_cons, List.flatMap_cons, List.flatMap_cons, ← ih (fun y hy => hf y (by simp [hy])) m, List.take_append, hx, Nat.add_mul, Nat.one_mul]
        rw [List.take_of_length_le (by omega), show m * sz + sz - sz = m * sz by omega]
  rw [hd l hf lo, ht (l.drop lo) (fun x hx => hf x (List.mem_of_mem_drop hx)) m]
theorem SlG.cut {α : Type} {f : α → List Value} {w : World} {A : Option Addr} {n c sz : Nat} {l : List α} (h : SlG w A n c sz f l) {lo hi : Nat} (h1 : lo ≤ hi) (h2 : hi ≤ n) : SlG w (slA A lo c sz) (hi - lo) (c - lo) sz f ((l.drop lo).take (hi - lo)) := by
  obtain ⟨hs, hl, hf⟩ := h
  refine ⟨?_, by rw [List.length_take, List.length_drop]; omega, fun x hx => hf x (List.mem_of_mem_drop (List.mem_of_mem_take hx))⟩
  rw [← flat_cut l hf]
  exact hs.cut h1 h2
theorem SlI.cut {w : World} {A : Option Addr} {n c : Nat} {l : List Int} (h : SlI w A n c l) {lo hi : Nat} (h1 : lo ≤ hi) (h2 : hi ≤ n) : SlI w (slA A lo c 1) (hi - lo) (c - lo) ((l.drop lo).take (hi - lo)) := by
  have := h.1.cut h1 h2
  refine ⟨by simpa [List.map_drop, List.map_take] using this, ?_, fun x hx => h.2.2 x (List.mem_of_mem_drop (List.mem_of_mem_take hx))⟩
  have := h.2.1
  rw [List.length_take, List.length_drop]
  omega
theorem SlB.cut {w : World} {A : Option Addr} {n c : Nat} {l : List UInt8} (h : SlB w A n c l) {lo hi : Nat} (h1 : lo ≤ hi) (h2 : hi ≤ n) : SlB w (slA A lo c 1) (hi - lo) (c - lo) ((l.drop lo).take (hi - lo)) := by
  have := h.1.cut h1 h2
  refine ⟨by simpa [List.map_drop, List.map_take] using this, ?_⟩
  have := h.2
  rw [List.length_take, List.length_drop]
  omega
section
variable {P : Program} {t : TypeId} {s : Nat} (ht : P.underlying t = some (.slice (P.elem t))) (hs : ∀ w, (sizeOf (P.elem t)).run P w = .ok s w) (w : World) (A : Option Addr) (n c lo hi : Nat)
include ht hs
theorem run_cut_lh (h1 : lo ≤ hi) (h2 : hi ≤ c) : (Instr.sliceAt t (.slice A n c) (some (.int .i64 lo)) (some (.int .i64 hi)) none).run P w = .ok (.slice (slA A lo c s) (hi - lo) (c - lo)) w := by
  rw [run_sliceAt_slice w t _ _ _ _ ht, run_slice_lh w t A n c ht .i64 .i64 lo hi (by omega) (by omega) (by omega), hs]
  simp only [Result.andThen_ok, sliced, slA, Int.toNat_natCast]
theorem run_cut_h (h2 : hi ≤ c) : (Instr.sliceAt t (.slice A n c) none (some (.int .i64 hi)) none).run P w = .ok (.slice (slA A 0 c s) hi c) w := by
  rw [run_sliceAt_slice w t _ _ _ _ ht, run_slice_h w t A n c ht .i64 hi (by omega) (by omega), hs]
  simp only [Result.andThen_ok, sliced, slA, Int.toNat_natCast, Nat.sub_zero]
theorem run_cut_l (h1 : lo ≤ n) : (Instr.sliceAt t (.slice A n c) (some (.int .i64 lo)) none none).run P w = .ok (.slice (slA A lo c s) (n - lo) (c - lo)) w := by
  rw [run_sliceAt_slice w t _ _ _ _ ht, run_slice_l w t A n c ht .i64 lo (by omega) (by omega), hs]
  simp only [Result.andThen_ok, sliced, slA, Int.toNat_natCast]
end
end Go.Proofs.Ytpgglefimdllbaa
