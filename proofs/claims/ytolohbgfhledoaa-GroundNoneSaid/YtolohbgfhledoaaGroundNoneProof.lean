/- GroundNone: whatever the packet, a station that is not there, or that no call made, hears nothing. No condition. -/
import Derived.Test.YtolohbgfhledoaaGroundNone
import Derived.Test.YtolohbgfhledoaaGrArgs
namespace Go.Proofs.Ytolohbgfhledoaa
open Go.ChangeShapes Go.WideShapes Go.ChangeAt Go.RowKit Go.Joins

set_option maxRecDepth 100000 in
theorem groundNone_lifted (os : Os) (started : os.Started) (H : Type) (enc : TypeId × Value → H) :
    ReturnsInHanded {} Try.checked os 7 .any (Rows.groundNoneSpec.pre6 enc Try.prog Try.f7 Rows.groundNoneRow.domain false) (Rows.groundNoneSpec.post enc Try.prog Try.f7 false true false false) := by
  refine law_lifted 7 Try.f7 Rows.groundNoneSpec os started H enc rfl Try.func7 (by kernel_rfl) (by kernel_rfl) (by kernel_rfl) (by kernel_rfl)
    (fun ds hl => by
      have hl' : ds.length = 1 := hl.trans (by kernel_rfl)
      match ds, hl' with
      | [d1], _ => rfl)
    (ChangeSpec.witness6 (enc := enc) (C := Try.checked) false ⟨#[], #[.agg #[.int .i64 0, .int .i64 0, .int .i64 0, .int .i64 0]], []⟩ 8 (by kernel_rfl) (by kernel_rfl) (by kernel_rfl) (by kernel_rfl)) ?_
  intro W base args ds ps hval hA
  rw [Try.params7] at hA hval
  obtain ⟨v0, vs0, d0, ds0, p0, q0, hargs, rfl, rfl, h0, r0⟩ := trodAll_cons hA
  obtain ⟨rfl, rfl, rfl⟩ := trodAll_nil r0
  obtain rfl : args = #[v0] := by cases args; simp_all
  obtain ⟨f, rfl, hfo⟩ := arg_pk (hval 0 _ v0 rfl rfl) h0
  exact groundNone_law

theorem groundNone_holds : Rows.GroundNoneSaid :=
  OpenClaim.holds_of_wide 7 Try.f7 rfl rfl rfl rfl rfl rfl rfl ⟨rfl, rfl, rfl, rfl, rfl⟩ rfl rfl rfl rfl rfl (by kernel_rfl) Try.func7 (by kernel_rfl)
    (of_decide_eq_true (by kernel_rfl)) (by unfold Func.isWrapper; first | (rw [if_pos (by decide +kernel)]; kernel_rfl) | (rw [if_neg (by decide +kernel)]; exact ⟨rfl, rfl⟩))
    (fun os started H enc _ => groundNone_lifted os started H enc)
#print axioms groundNone_holds
end Go.Proofs.Ytolohbgfhledoaa
