/- CalendarOrder: whatever the configuration and the frames (of lists of at most 100; else nothing but the small check is asked), frames stand one behind the other without a gap; of a configuration that may be all boundaries stand in order. No condition. -/
import Derived.Test.YtiglabknaldinaaCalendarOrder
import Derived.Test.YtiglabknaldinaaCalArgs
namespace Go.Proofs.Ytiglabknaldinaa
open Go.ChangeShapes Go.WideShapes Go.ChangeAt Go.RowKit Go.Joins

set_option maxRecDepth 100000 in
theorem calendarOrder_lifted (os : Os) (started : os.Started) (H : Type) (enc : TypeId × Value → H) :
    ReturnsInHanded {} Try.checked os 4 .any (Rows.calendarOrderSpec.pre6 enc Try.prog Try.f4 Rows.calendarOrderRow.domain false) (Rows.calendarOrderSpec.post enc Try.prog Try.f4 false true false false) := by
  refine law_lifted 4 Try.f4 Rows.calendarOrderSpec os started H enc rfl Try.func4 (by kernel_rfl) (by kernel_rfl) (by kernel_rfl) (by kernel_rfl)
    (fun ds hl => by
      have hl' : ds.length = 2 := hl.trans (by kernel_rfl)
      match ds, hl' with
      | [d1, d2], _ => rfl)
    (ChangeSpec.witness6 (enc := enc) (C := Try.checked) false ⟨#[], #[.agg #[.slice none 0 0, .slice none 0 0, .slice none 0 0, .slice none 0 0, .slice none 0 0, .int .i64 0, .int .i64 0, .int .i64 0, .int .i64 0, .int .i64 0, .int .i64 0, .slice none 0 0, .slice none 0 0], .slice none 0 0], []⟩ 40 (by kernel_rfl) (by kernel_rfl) (by kernel_rfl) (by kernel_rfl)) ?_
  intro W base args ds ps hval hA
  rw [Try.params4] at hA hval
  obtain ⟨v0, vs0, d0, ds0, p0, q0, hargs, rfl, rfl, h0, r0⟩ := trodAll_cons hA
  obtain ⟨v1, vs1, d1, ds1, p1, q1, rfl, rfl, rfl, h1, r1⟩ := trodAll_cons r0
  obtain ⟨rfl, rfl, rfl⟩ := trodAll_nil r1
  obtain rfl : args = #[v0, v1] := by cases args; simp_all
  obtain ⟨x, rfl, hx⟩ := arg_cf (hval 0 _ v0 rfl rfl) h0
  obtain ⟨L, rfl, hL⟩ := arg_fms (hval 1 _ v1 rfl rfl) h1
  exact calendarOrder_law hx hL

theorem calendarOrder_holds : Rows.CalendarOrderSaid :=
  OpenClaim.holds_of_wide 4 Try.f4 rfl rfl rfl rfl rfl rfl rfl ⟨rfl, rfl, rfl, rfl, rfl⟩ rfl rfl rfl rfl rfl (by kernel_rfl) Try.func4 (by kernel_rfl)
    (of_decide_eq_true (by kernel_rfl)) (by unfold Func.isWrapper; first | (rw [if_pos (by decide +kernel)]; kernel_rfl) | (rw [if_neg (by decide +kernel)]; exact ⟨rfl, rfl⟩))
    (fun os started H enc _ => calendarOrder_lifted os started H enc)
#print axioms calendarOrder_holds
end Go.Proofs.Ytiglabknaldinaa
