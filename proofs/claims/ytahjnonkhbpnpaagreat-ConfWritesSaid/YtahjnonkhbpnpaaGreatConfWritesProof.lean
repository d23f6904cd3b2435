/- ConfWrites: whatever the configuration (of lists of at most 100; else nothing but the small check is asked), its bytes are as the document says, or the error. No condition. -/
import Derived.Test.YtahjnonkhbpnpaaGreatConfArgs
import Derived.Test.YtahjnonkhbpnpaaGreatConfWrites
namespace Go.Proofs.YtahjnonkhbpnpaaGreat
open Go.ChangeShapes Go.WideShapes Go.ChangeAt Go.RowKit Go.Joins

set_option maxRecDepth 100000 in
theorem confWrites_lifted (os : Os) (started : os.Started) (H : Type) (enc : TypeId × Value → H) :
    ReturnsInHanded {} Tryz.checked os 3 .any (Rows.confWritesSpec.pre6 enc Tryz.prog Tryz.f3 Rows.confWritesRow.domain false) (Rows.confWritesSpec.post enc Tryz.prog Tryz.f3 false true false false) := by
  refine law_lifted 3 Tryz.f3 Rows.confWritesSpec os started H enc rfl Tryz.func3 (by kernel_rfl) (by kernel_rfl) (by kernel_rfl) (by kernel_rfl)
    (fun ds hl => by
      have hl' : ds.length = 1 := hl.trans (by kernel_rfl)
      match ds, hl' with
      | [d1], _ => rfl)
    (ChangeSpec.witness6 (enc := enc) (C := Tryz.checked) false ⟨#[], #[.agg #[.slice none 0 0, .slice none 0 0, .slice none 0 0, .slice none 0 0, .slice none 0 0, .int .i64 0, .int .i64 0, .int .i64 0, .int .i64 0, .int .i64 0, .int .i64 0, .slice none 0 0, .slice none 0 0]], []⟩ 40 (by kernel_rfl) (by kernel_rfl) (by kernel_rfl) (by kernel_rfl)) ?_
  intro W base args ds ps hval hA
  rw [Tryz.params3] at hA hval
  obtain ⟨v0, vs0, d0, ds0, p0, q0, hargs, rfl, rfl, h0, r0⟩ := trodAll_cons hA
  obtain ⟨rfl, rfl, rfl⟩ := trodAll_nil r0
  obtain rfl : args = #[v0] := by cases args; simp_all
  obtain ⟨x, rfl, hx⟩ := arg_cf (hval 0 _ v0 rfl rfl) h0
  exact confWrites_law hx

theorem confWrites_holds : Rows.ConfWritesSaid :=
  OpenClaim.holds_of_wide 3 Tryz.f3 rfl rfl rfl rfl rfl rfl rfl ⟨rfl, rfl, rfl, rfl, rfl⟩ rfl rfl rfl rfl rfl (by kernel_rfl) Tryz.func3 (by kernel_rfl)
    (of_decide_eq_true (by kernel_rfl)) (by unfold Func.isWrapper; first | (rw [if_pos (by decide +kernel)]; kernel_rfl) | (rw [if_neg (by decide +kernel)]; exact ⟨rfl, rfl⟩))
    (fun os started H enc _ => confWrites_lifted os started H enc)
#print axioms confWrites_holds
end Go.Proofs.YtahjnonkhbpnpaaGreat
