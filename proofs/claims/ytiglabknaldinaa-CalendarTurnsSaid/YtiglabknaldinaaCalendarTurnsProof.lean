/- CalendarTurns: whatever the configuration (of lists of at most 100; else nothing but the small check is asked), the modes and the time, the mode that comes is the one that is asked for, if there is such a one, and a mode's windows are as the document says. No condition. -/
import Derived.Test.YtiglabknaldinaaCalendarTurns
import Derived.Test.YtiglabknaldinaaCalArgs
namespace Go.Proofs.Ytiglabknaldinaa
open Go.ChangeShapes Go.WideShapes Go.ChangeAt Go.RowKit Go.Joins

set_option maxRecDepth 100000 in
theorem calendarTurns_lifted (os : Os) (started : os.Started) (H : Type) (enc : TypeId × Value → H) :
    ReturnsInHanded {} Try.checked os 5 .any (Rows.calendarTurnsSpec.pre6 enc Try.prog Try.f5 Rows.calendarTurnsRow.domain false) (Rows.calendarTurnsSpec.post enc Try.prog Try.f5 false true false false) := by
  refine law_lifted 5 Try.f5 Rows.calendarTurnsSpec os started H enc rfl Try.func5 (by kernel_rfl) (by kernel_rfl) (by kernel_rfl) (by kernel_rfl)
    (fun ds hl => by
      have hl' : ds.length = 3 := hl.trans (by kernel_rfl)
      match ds, hl' with
      | [d1, d2, d3], _ => rfl)
    (ChangeSpec.witness6 (enc := enc) (C := Try.checked) false ⟨#[], #[.agg #[.slice none 0 0, .slice none 0 0, .slice none 0 0, .slice none 0 0, .slice none 0 0, .int .i64 0, .int .i64 0, .int .i64 0, .int .i64 0, .int .i64 0, .int .i64 0, .slice none 0 0, .slice none 0 0], .agg #[.int .i64 0, .int .i64 0], .int .i64 0], []⟩ 40 (by kernel_rfl) (by kernel_rfl) (by kernel_rfl) (by kernel_rfl)) ?_
  intro W base args ds ps hval hA
  rw [Try.params5] at hA hval
  obtain ⟨v0, vs0, d0, ds0, p0, q0, hargs, rfl, rfl, h0, r0⟩ := trodAll_cons hA
  obtain ⟨v1, vs1, d1, ds1, p1, q1, rfl, rfl, rfl, h1, r1⟩ := trodAll_cons r0
  obtain ⟨v2, vs2, d2, ds2, p2, q2, rfl, rfl, rfl, h2, r2⟩ := trodAll_cons r1
  obtain ⟨rfl, rfl, rfl⟩ := trodAll_nil r2
  obtain rfl : args = #[v0, v1, v2] := by cases args; simp_all
  obtain ⟨x, rfl, hx⟩ := arg_cf (hval 0 _ v0 rfl rfl) h0
  obtain ⟨n0, n1, rfl, hn0, hn1⟩ := arg_int2 (e := 3) (by kernel_rfl) u_int c_int (by kernel_rfl) (hval 1 _ v1 rfl rfl) h1
  obtain ⟨z, rfl, hz⟩ := arg_int u_int (hval 2 _ v2 rfl rfl) h2
  exact calendarTurns_law hx n0 n1 z hz

theorem calendarTurns_holds : Rows.CalendarTurnsSaid :=
  OpenClaim.holds_of_wide 5 Try.f5 rfl rfl rfl rfl rfl rfl rfl ⟨rfl, rfl, rfl, rfl, rfl⟩ rfl rfl rfl rfl rfl (by kernel_rfl) Try.func5 (by kernel_rfl)
    (of_decide_eq_true (by kernel_rfl)) (by unfold Func.isWrapper; first | (rw [if_pos (by decide +kernel)]; kernel_rfl) | (rw [if_neg (by decide +kernel)]; exact ⟨rfl, rfl⟩))
    (fun os started H enc _ => calendarTurns_lifted os started H enc)
#print axioms calendarTurns_holds
end Go.Proofs.Ytiglabknaldinaa
