/- ShedHolds: whatever the thresholds, level and reading (of at most 100 thresholds; else nothing but the small check is asked), a level between both thresholds stays as it is, however often it is asked. No condition. -/
import Derived.Test.YtkmfpchcnbippaaShedHolds
import Derived.Test.YtkmfpchcnbippaaShedArgs
namespace Go.Proofs.Ytkmfpchcnbippaa
open Go.ChangeShapes Go.WideShapes Go.ChangeAt Go.RowKit Go.Joins

set_option maxRecDepth 100000 in
theorem shedHolds_lifted (os : Os) (started : os.Started) (H : Type) (enc : TypeId × Value → H) :
    ReturnsInHanded {} Try.checked os 5 .any (Rows.shedHoldsSpec.pre6 enc Try.prog Try.f5 Rows.shedHoldsRow.domain false) (Rows.shedHoldsSpec.post enc Try.prog Try.f5 false true false false) := by
  refine law_lifted 5 Try.f5 Rows.shedHoldsSpec os started H enc rfl Try.func5 (by kernel_rfl) (by kernel_rfl) (by kernel_rfl) (by kernel_rfl)
    (fun ds hl => by
      have hl' : ds.length = 2 := hl.trans (by kernel_rfl)
      match ds, hl' with
      | [d1, d2], _ => rfl)
    (ChangeSpec.witness6 (enc := enc) (C := Try.checked) false ⟨#[], #[.agg #[.slice none 0 0, .slice none 0 0, .int .i64 0, .int .i64 0], .int .u8 0], []⟩ 8 (by kernel_rfl) (by kernel_rfl) (by kernel_rfl) (by kernel_rfl)) ?_
  intro W base args ds ps hval hA
  rw [Try.params5] at hA hval
  obtain ⟨v0, vs0, d0, ds0, p0, q0, hargs, rfl, rfl, h0, r0⟩ := trodAll_cons hA
  obtain ⟨v1, vs1, d1, ds1, p1, q1, rfl, rfl, rfl, h1, r1⟩ := trodAll_cons r0
  obtain ⟨rfl, rfl, rfl⟩ := trodAll_nil r1
  obtain rfl : args = #[v0, v1] := by cases args; simp_all
  obtain ⟨A, n, c, xs, B, m, e, us, x, y, rfl, hd, hu, hx, hy⟩ := arg_held (hval 0 _ v0 rfl rfl) h0
  obtain ⟨nn, rfl, _, _, wn⟩ := open_int (k := .u8) (by kernel_rfl) (hval 1 _ v1 rfl rfl) h1
  have hnn : 0 ≤ nn ∧ nn ≤ 255 := by
    have e1 : IntKind.u8.min = 0 := rfl
    have e2 : IntKind.u8.max = 255 := rfl
    simp only [Lit.wf, Bool.and_eq_true, decide_eq_true_eq, e1, e2] at wn
    exact wn
  exact shedHolds_law hd hu x y hx nn hnn

theorem shedHolds_holds : Rows.ShedHoldsSaid :=
  OpenClaim.holds_of_wide 5 Try.f5 rfl rfl rfl rfl rfl rfl rfl ⟨rfl, rfl, rfl, rfl, rfl⟩ rfl rfl rfl rfl rfl (by kernel_rfl) Try.func5 (by kernel_rfl)
    (of_decide_eq_true (by kernel_rfl)) (by unfold Func.isWrapper; first | (rw [if_pos (by decide +kernel)]; kernel_rfl) | (rw [if_neg (by decide +kernel)]; exact ⟨rfl, rfl⟩))
    (fun os started H enc _ => shedHolds_lifted os started H enc)
#print axioms shedHolds_holds
end Go.Proofs.Ytkmfpchcnbippaa
