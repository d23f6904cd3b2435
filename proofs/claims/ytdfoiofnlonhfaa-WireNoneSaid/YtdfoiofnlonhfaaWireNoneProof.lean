/- WireNone: whatever the greatest length, a reader that is not there reads nothing. No condition. -/
import Derived.Test.YtdfoiofnlonhfaaWireNone
import Derived.Test.YtdfoiofnlonhfaaWireArgs
namespace Go.Proofs.Ytdfoiofnlonhfaa
open Go.ChangeShapes Go.WideShapes Go.ChangeAt Go.RowKit Go.Joins

set_option maxRecDepth 100000 in
theorem wireNone_lifted (os : Os) (started : os.Started) (H : Type) (enc : TypeId × Value → H) :
    ReturnsInHanded {} Try.checked os 5 .any (Rows.wireNoneSpec.pre6 enc Try.prog Try.f5 Rows.wireNoneRow.domain false) (Rows.wireNoneSpec.post enc Try.prog Try.f5 false true false false) := by
  refine law_lifted 5 Try.f5 Rows.wireNoneSpec os started H enc rfl Try.func5 (by kernel_rfl) (by kernel_rfl) (by kernel_rfl) (by kernel_rfl)
    (fun ds hl => by
      have hl' : ds.length = 1 := hl.trans (by kernel_rfl)
      match ds, hl' with
      | [d1], _ => rfl)
    (ChangeSpec.witness6 (enc := enc) (C := Try.checked) false ⟨#[], #[.int .i64 0], []⟩ 8 (by kernel_rfl) (by kernel_rfl) (by kernel_rfl) (by kernel_rfl)) ?_
  intro W base args ds ps hval hA
  rw [Try.params5] at hA hval
  obtain ⟨v0, vs0, d0, ds0, p0, q0, hargs, rfl, rfl, h0, r0⟩ := trodAll_cons hA
  obtain ⟨rfl, rfl, rfl⟩ := trodAll_nil r0
  obtain rfl : args = #[v0] := by cases args; simp_all
  obtain ⟨x0, rfl, hx0⟩ := arg_int u_int (hval 0 _ v0 rfl rfl) h0
  exact wireNone_law x0

theorem wireNone_holds : Rows.WireNoneSaid :=
  OpenClaim.holds_of_wide 5 Try.f5 rfl rfl rfl rfl rfl rfl rfl ⟨rfl, rfl, rfl, rfl, rfl⟩ rfl rfl rfl rfl rfl (by kernel_rfl) Try.func5 (by kernel_rfl)
    (of_decide_eq_true (by kernel_rfl)) (by unfold Func.isWrapper; first | (rw [if_pos (by decide +kernel)]; kernel_rfl) | (rw [if_neg (by decide +kernel)]; exact ⟨rfl, rfl⟩))
    (fun os started H enc _ => wireNone_lifted os started H enc)
#print axioms wireNone_holds
end Go.Proofs.Ytdfoiofnlonhfaa
