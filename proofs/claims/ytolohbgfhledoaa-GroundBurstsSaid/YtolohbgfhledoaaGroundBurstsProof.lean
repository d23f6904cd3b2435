/- GroundBursts: bytes of a packet of which up to 32 bits in a row are turned, some of them, are not taken as another packet of as many bytes. No condition. -/
import Derived.Test.YtolohbgfhledoaaGroundBursts
import Derived.Test.YtolohbgfhledoaaGrArgs
namespace Go.Proofs.Ytolohbgfhledoaa
open Go.ChangeShapes Go.WideShapes Go.ChangeAt Go.RowKit Go.Joins

set_option maxRecDepth 100000 in
theorem groundBursts_lifted (os : Os) (started : os.Started) (H : Type) (enc : TypeId × Value → H) :
    ReturnsInHanded {} Try.checked os 4 .any (Rows.groundBurstsSpec.pre6 enc Try.prog Try.f4 Rows.groundBurstsRow.domain false) (Rows.groundBurstsSpec.post enc Try.prog Try.f4 false true false false) := by
  refine law_lifted 4 Try.f4 Rows.groundBurstsSpec os started H enc rfl Try.func4 (by kernel_rfl) (by kernel_rfl) (by kernel_rfl) (by kernel_rfl)
    (fun ds hl => by
      have hl' : ds.length = 3 := hl.trans (by kernel_rfl)
      match ds, hl' with
      | [d1, d2, d3], _ => rfl)
    (ChangeSpec.witness6 (enc := enc) (C := Try.checked) false ⟨#[], #[.agg #[.int .i64 0, .int .i64 0, .int .i64 0, .int .i64 0], .int .u16 0, .int .u32 0], []⟩ 8 (by kernel_rfl) (by kernel_rfl) (by kernel_rfl) (by kernel_rfl)) ?_
  intro W base args ds ps hval hA
  rw [Try.params4] at hA hval
  obtain ⟨v0, vs0, d0, ds0, p0, q0, hargs, rfl, rfl, h0, r0⟩ := trodAll_cons hA
  obtain ⟨v1, vs1, d1, ds1, p1, q1, rfl, rfl, rfl, h1, r1⟩ := trodAll_cons r0
  obtain ⟨v2, vs2, d2, ds2, p2, q2, rfl, rfl, rfl, h2, r2⟩ := trodAll_cons r1
  obtain ⟨rfl, rfl, rfl⟩ := trodAll_nil r2
  obtain rfl : args = #[v0, v1, v2] := by cases args; simp_all
  obtain ⟨f, rfl, hfo⟩ := arg_pk (hval 0 _ v0 rfl rfl) h0
  obtain ⟨a, rfl, ha⟩ := arg_u16 (hval 1 _ v1 rfl rfl) h1 (by kernel_rfl)
  obtain ⟨m, rfl, hm⟩ := arg_u32 (hval 2 _ v2 rfl rfl) h2 (by kernel_rfl)
  exact groundBursts_law hfo a ha m hm

theorem groundBursts_holds : Rows.GroundBurstsSaid :=
  OpenClaim.holds_of_wide 4 Try.f4 rfl rfl rfl rfl rfl rfl rfl ⟨rfl, rfl, rfl, rfl, rfl⟩ rfl rfl rfl rfl rfl (by kernel_rfl) Try.func4 (by kernel_rfl)
    (of_decide_eq_true (by kernel_rfl)) (by unfold Func.isWrapper; first | (rw [if_pos (by decide +kernel)]; kernel_rfl) | (rw [if_neg (by decide +kernel)]; exact ⟨rfl, rfl⟩))
    (fun os started H enc _ => groundBursts_lifted os started H enc)
#print axioms groundBursts_holds
end Go.Proofs.Ytolohbgfhledoaa
