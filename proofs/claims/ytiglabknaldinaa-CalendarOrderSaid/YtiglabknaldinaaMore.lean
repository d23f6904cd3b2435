/- Small words: a whole struct stored at once (setRow). -/
import Derived.Test.YtiglabknaldinaaBase
namespace Go.Proofs.Ytiglabknaldinaa
open Go.RowKit
def setRow (w : World) (g : Nat) : Nat → List Value → World
  | _, [] => w
  | i, v :: vs => setRow (w.setCell ⟨g, i, none⟩ v) g (i + 1) vs
section
variable {w w0 : World} {g : Nat} {t : TypeId}
theorem Blk.rowFrom : ∀ (vs : List Value) (i : Nat) (w : World) (cs : Array Value), Blk w g t cs → i + vs.length ≤ cs.size → Blk (setRow w g i vs) g t (cs.toList.take i ++ vs ++ cs.toList.drop (i + vs.length)).toArray
  | [], i, w, cs, h, hl => by simpa [setRow] using h
  | v :: vs, i, w, cs, h, hl => by
    rw [List.length_cons] at hl
    have := Blk.rowFrom vs (i + 1) _ _ (h.set_ i v) (by simp; omega)
    have hi : i < cs.toList.length := by simp; omega
    unfold setRow
    refine cast ?_ this
    congr 2
    rw [Array.toList_setIfInBounds, List.drop_set_of_lt (by omega), List.take_set, List.take_succ_eq_append_getElem hi, List.set_append_right _ _ (by rw [List.length_take]; omega), List.length_cons]
    rw [List.length_take, Nat.min_eq_left (by omega), Nat.sub_self]
    simp [Nat.add_assoc, Nat.add_comm 1]
theorem Blk.row {cs : Array Value} {vs : List Value} (h : Blk w g t cs) (hl : cs.size = vs.length) : Blk (setRow w g 0 vs) g t vs.toArray := by
  have := Blk.rowFrom vs 0 w cs h (by omega)
  rw [List.take_zero, List.nil_append, Nat.zero_add, List.drop_eq_nil_of_le (by simp; omega), List.append_nil] at this
  exact this
theorem Below.row {B : Nat} : ∀ (vs : List Value) (i : Nat) {w : World}, Below B w0 w → B ≤ g → Below B w0 (setRow w g i vs)
  | [], _, _, h, _ => h
  | _ :: vs, i, _, h, hg => Below.row vs (i + 1) (h.setCell (p := ⟨g, i, none⟩) hg _) hg
theorem Fr.row {S : Nat → Prop} : ∀ (vs : List Value) (i : Nat) {w : World}, Fr S w0 w → (g < w0.heap.size → S g) → Fr S w0 (setRow w g i vs)
  | [], _, _, h, _ => h
  | _ :: vs, i, _, h, hg => Fr.row vs (i + 1) (h.setCell (p := ⟨g, i, none⟩) hg _) hg
end
end Go.Proofs.Ytiglabknaldinaa
