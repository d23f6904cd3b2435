/- How the arguments of the laws on calendar are read. -/
import Derived.Test.YtiglabknaldinaaArgs2
import Derived.Test.YtiglabknaldinaaFrm
import Derived.Test.YtiglabknaldinaaCfgShort
namespace Go.Proofs.Ytiglabknaldinaa
open Go.ChangeShapes Go.WideShapes Go.ChangeAt Go.RowKit Go.Joins
section
variable {H : Type} {enc : TypeId × Value → H} {W : World} {r : Reach} {base : Nat} {v : Value} {d : DataW H} {p : List MemPlace}
set_option maxRecDepth 100000 in
theorem arg_cf (hv : Value.okWide Try.prog W r base 33 v) (h : DataW.Trod enc Try.prog W 0 (fun _ => true) true 33 v d p) : ∃ x : Cf, v = x.v ∧ x.ok W := by
  obtain ⟨x, e, h⟩ := rd_arg rdCf u_Cf (by kernel_rfl) hv h
  exact ⟨x, e, h⟩
set_option maxRecDepth 100000 in
theorem arg_fms (hv : Value.okWide Try.prog W r base 34 v) (h : DataW.Trod enc Try.prog W 0 (fun _ => true) true 34 v d p) : ∃ x : Hd Fm, v = x.v ∧ rdFms.ok W x :=
  rd_args rdFms (fun _ => rfl) rfl (e := 76) (by kernel_rfl) hv h
end
end Go.Proofs.Ytiglabknaldinaa
