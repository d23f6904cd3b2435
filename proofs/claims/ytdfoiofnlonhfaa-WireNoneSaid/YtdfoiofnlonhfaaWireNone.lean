/- The law WireNone returns true whatever the input. -/
import Derived.Test.YtdfoiofnlonhfaaWireWorks
namespace Go.Proofs.Ytdfoiofnlonhfaa
open Go.RowKit
set_option maxRecDepth 100000 in
theorem wireNone_law {w : World} (m : Int) :
    Calls Try.prog 5 #[.int .i64 m] w fun e w' => e = .returned (.bool true) ∧ Below w.heap.size w w' := by
  go_enter Try.func5, Try.ntmps5
  go_wp2_with fail
  refine rdInt_nil.mono ?_
  rintro e w2 ⟨rfl, rfl⟩
  go_wp2_with fail
  refine rdBool_nil.mono ?_
  rintro e w2 ⟨rfl, rfl⟩
  go_wp2_with fail
  refine err_nil.mono ?_
  rintro e w2 ⟨rfl, rfl⟩
  go_wp2_with fail
  refine end_nil.mono ?_
  rintro e w2 ⟨rfl, rfl⟩
  go_wp2_with fail
  refine (list_nil _ _).mono ?_
  rintro e w2 ⟨rfl, rfl⟩
  go_wp2_with fail
  refine (works_any _).mono ?_
  rintro e w2 ⟨rfl, hb2⟩
  go_wp2_with fail
  go_ret
  exact ⟨rfl, hb2⟩
end Go.Proofs.Ytdfoiofnlonhfaa
