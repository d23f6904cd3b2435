/- How the arguments of the laws on wire are read. -/
import Derived.Test.YtdfoiofnlonhfaaArgs2
import Derived.Test.YtdfoiofnlonhfaaChecked
namespace Go.Proofs.Ytdfoiofnlonhfaa
open Go.ChangeShapes Go.WideShapes Go.ChangeAt Go.RowKit Go.Joins
theorem u_int : Try.prog.underlying 3 = some (.int .i64) := by kernel_rfl
theorem c_int : Try.prog.cellsOf 3 = 1 := by kernel_rfl
theorem u_ints : Try.prog.underlying 22 = some (.slice 3) := by kernel_rfl
theorem arg_bool {H : Type} {enc : TypeId × Value → H} {P : Program} {W : World} {r : Reach} {base : Nat} {t : TypeId} {v : Value} {d : DataW H} {p : List MemPlace} (hv : Value.okWide P W r base t v) (h : DataW.Trod enc P W 0 (fun _ => true) true t v d p) (ht : P.underlying t = some .bool) : ∃ b, v = .bool b := by
  obtain ⟨b, rfl, _⟩ := open_bool ht hv h
  exact ⟨b, rfl⟩
end Go.Proofs.Ytdfoiofnlonhfaa
