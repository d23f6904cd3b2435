/- WireOnce: whatever the bytes (of at most 400; else nothing but the small check is asked), what is read of them, written, is the bytes that were read. No condition. -/
import Derived.Test.YtdfoiofnlonhfaaWireOnce
import Derived.Test.YtdfoiofnlonhfaaWireArgs
namespace Go.Proofs.Ytdfoiofnlonhfaa
open Go.ChangeShapes Go.WideShapes Go.ChangeAt Go.RowKit Go.Joins

set_option maxRecDepth 100000 in
theorem wireOnce_lifted (os : Os) (started : os.Started) (H : Type) (enc : TypeId × Value → H) :
    ReturnsInHanded {} Try.checked os 4 .any (Rows.wireOnceSpec.pre6 enc Try.prog Try.f4 Rows.wireOnceRow.domain false) (Rows.wireOnceSpec.post enc Try.prog Try.f4 false true false false) := by
  refine law_lifted 4 Try.f4 Rows.wireOnceSpec os started H enc rfl Try.func4 (by kernel_rfl) (by kernel_rfl) (by kernel_rfl) (by kernel_rfl)
    (fun ds hl => by
      have hl' : ds.length = 1 := hl.trans (by kernel_rfl)
      match ds, hl' with
      | [d1], _ => rfl)
    (ChangeSpec.witness6 (enc := enc) (C := Try.checked) false ⟨#[], #[.slice none 0 0], []⟩ 8 (by kernel_rfl) (by kernel_rfl) (by kernel_rfl) (by kernel_rfl)) ?_
  intro W base args ds ps hval hA
  rw [Try.params4] at hA hval
  obtain ⟨v0, vs0, d0, ds0, p0, q0, hargs, rfl, rfl, h0, r0⟩ := trodAll_cons hA
  obtain ⟨rfl, rfl, rfl⟩ := trodAll_nil r0
  obtain rfl : args = #[v0] := by cases args; simp_all
  obtain ⟨B, m, d, bs, rfl, hbs⟩ := arg_SlB (e := 5) (by kernel_rfl) (by kernel_rfl) (by kernel_rfl) (hval 0 _ v0 rfl rfl) h0
  exact wireOnce_law hbs

theorem wireOnce_holds : Rows.WireOnceSaid :=
  OpenClaim.holds_of_wide 4 Try.f4 rfl rfl rfl rfl rfl rfl rfl ⟨rfl, rfl, rfl, rfl, rfl⟩ rfl rfl rfl rfl rfl (by kernel_rfl) Try.func4 (by kernel_rfl)
    (of_decide_eq_true (by kernel_rfl)) (by unfold Func.isWrapper; first | (rw [if_pos (by decide +kernel)]; kernel_rfl) | (rw [if_neg (by decide +kernel)]; exact ⟨rfl, rfl⟩))
    (fun os started H enc _ => wireOnce_lifted os started H enc)
#print axioms wireOnce_holds
end Go.Proofs.Ytdfoiofnlonhfaa
