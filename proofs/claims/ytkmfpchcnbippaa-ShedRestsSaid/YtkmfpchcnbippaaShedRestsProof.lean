/- ShedRests: whatever the configuration and levels (of at most 100 partitions; else nothing but the small check is asked), who rests is as the document says, and rests at each greater level. No condition. -/
import Derived.Test.YtkmfpchcnbippaaShedRests
import Derived.Test.YtkmfpchcnbippaaShedArgs
namespace Go.Proofs.Ytkmfpchcnbippaa
open Go.ChangeShapes Go.WideShapes Go.ChangeAt Go.RowKit Go.Joins

set_option maxRecDepth 100000 in
theorem shedRests_lifted (os : Os) (started : os.Started) (H : Type) (enc : TypeId × Value → H) :
    ReturnsInHanded {} Try.checked os 6 .any (Rows.shedRestsSpec.pre6 enc Try.prog Try.f6 Rows.shedRestsRow.domain false) (Rows.shedRestsSpec.post enc Try.prog Try.f6 false true false false) := by
  refine law_lifted 6 Try.f6 Rows.shedRestsSpec os started H enc rfl Try.func6 (by kernel_rfl) (by kernel_rfl) (by kernel_rfl) (by kernel_rfl)
    (fun ds hl => by
      have hl' : ds.length = 2 := hl.trans (by kernel_rfl)
      match ds, hl' with
      | [d1, d2], _ => rfl)
    (ChangeSpec.witness6 (enc := enc) (C := Try.checked) false ⟨#[], #[.agg #[.slice none 0 0, .slice none 0 0, .slice none 0 0, .slice none 0 0, .slice none 0 0, .int .i64 0, .int .i64 0, .int .i64 0, .int .i64 0, .int .i64 0, .int .i64 0, .slice none 0 0, .slice none 0 0], .agg #[.int .i64 0, .int .i64 0]], []⟩ 40 (by kernel_rfl) (by kernel_rfl) (by kernel_rfl) (by kernel_rfl)) ?_
  intro W base args ds ps hval hA
  rw [Try.params6] at hA hval
  obtain ⟨v0, vs0, d0, ds0, p0, q0, hargs, rfl, rfl, h0, r0⟩ := trodAll_cons hA
  obtain ⟨v1, vs1, d1, ds1, p1, q1, rfl, rfl, rfl, h1, r1⟩ := trodAll_cons r0
  obtain ⟨rfl, rfl, rfl⟩ := trodAll_nil r1
  obtain rfl : args = #[v0, v1] := by cases args; simp_all
  obtain ⟨A, n, c, cs, lad, u1, u2, u3, u4, u5, u6, u7, u8, u9, u10, u11, u12, rfl, hL⟩ := arg_cfg (hval 0 _ v0 rfl rfl) h0
  obtain ⟨x, y, rfl, hx, hy⟩ := arg_int2 (e := 3) (by kernel_rfl) u_int c_int (by kernel_rfl) (hval 1 _ v1 rfl rfl) h1
  exact shedRests_law hL u1 u2 u3 u4 u5 u6 u7 u8 u9 u10 u11 u12 x y

theorem shedRests_holds : Rows.ShedRestsSaid :=
  OpenClaim.holds_of_wide 6 Try.f6 rfl rfl rfl rfl rfl rfl rfl ⟨rfl, rfl, rfl, rfl, rfl⟩ rfl rfl rfl rfl rfl (by kernel_rfl) Try.func6 (by kernel_rfl)
    (of_decide_eq_true (by kernel_rfl)) (by unfold Func.isWrapper; first | (rw [if_pos (by decide +kernel)]; kernel_rfl) | (rw [if_neg (by decide +kernel)]; exact ⟨rfl, rfl⟩))
    (fun os started H enc _ => shedRests_lifted os started H enc)
#print axioms shedRests_holds
end Go.Proofs.Ytkmfpchcnbippaa
