/- DigestApart: whatever two rows of events (of at most 100 each; else nothing but the small check is asked), their bytes are alike just if they are. No condition. -/
import Derived.Test.YtjjmnkhlcgjfmaaDigestApart
import Derived.Test.YtjjmnkhlcgjfmaaEvArgs
namespace Go.Proofs.Ytjjmnkhlcgjfmaa
open Go.ChangeShapes Go.WideShapes Go.ChangeAt Go.RowKit Go.Joins

set_option maxRecDepth 100000 in
theorem digestApart_lifted (os : Os) (started : os.Started) (H : Type) (enc : TypeId × Value → H) :
    ReturnsInHanded {} Try.checked os 5 .any (Rows.digestApartSpec.pre6 enc Try.prog Try.f5 Rows.digestApartRow.domain false) (Rows.digestApartSpec.post enc Try.prog Try.f5 false true false false) := by
  refine law_lifted 5 Try.f5 Rows.digestApartSpec os started H enc rfl Try.func5 (by kernel_rfl) (by kernel_rfl) (by kernel_rfl) (by kernel_rfl)
    (fun ds hl => by
      have hl' : ds.length = 2 := hl.trans (by kernel_rfl)
      match ds, hl' with
      | [d1, d2], _ => rfl)
    (ChangeSpec.witness6 (enc := enc) (C := Try.checked) false ⟨#[], #[.slice none 0 0, .slice none 0 0], []⟩ 8 (by kernel_rfl) (by kernel_rfl) (by kernel_rfl) (by kernel_rfl)) ?_
  intro W base args ds ps hval hA
  rw [Try.params5] at hA hval
  obtain ⟨v0, vs0, d0, ds0, p0, q0, hargs, rfl, rfl, h0, r0⟩ := trodAll_cons hA
  obtain ⟨v1, vs1, d1, ds1, p1, q1, rfl, rfl, rfl, h1, r1⟩ := trodAll_cons r0
  obtain ⟨rfl, rfl, rfl⟩ := trodAll_nil r1
  obtain rfl : args = #[v0, v1] := by cases args; simp_all
  obtain ⟨A, n, c, l, rfl, hl⟩ := arg_SlE (hval 0 _ v0 rfl rfl) h0
  obtain ⟨B, m, d, l2, rfl, hl2⟩ := arg_SlE (hval 1 _ v1 rfl rfl) h1
  exact digestApart_law hl hl2

theorem digestApart_holds : Rows.DigestApartSaid :=
  OpenClaim.holds_of_wide 5 Try.f5 rfl rfl rfl rfl rfl rfl rfl ⟨rfl, rfl, rfl, rfl, rfl⟩ rfl rfl rfl rfl rfl (by kernel_rfl) Try.func5 (by kernel_rfl)
    (of_decide_eq_true (by kernel_rfl)) (by unfold Func.isWrapper; first | (rw [if_pos (by decide +kernel)]; kernel_rfl) | (rw [if_neg (by decide +kernel)]; exact ⟨rfl, rfl⟩))
    (fun os started H enc _ => digestApart_lifted os started H enc)
#print axioms digestApart_holds
end Go.Proofs.Ytjjmnkhlcgjfmaa
