/- How the arguments of the laws on conf are read. -/
import Derived.Test.YtahjnonkhbpnpaaGreatCm3
import Derived.Test.YtahjnonkhbpnpaaGreatCm9
namespace Go.Proofs.YtahjnonkhbpnpaaGreat
open Go.ChangeShapes Go.WideShapes Go.ChangeAt Go.RowKit Go.Joins
section
variable {H : Type} {enc : TypeId × Value → H} {W : World} {r : Reach} {base : Nat} {v : Value} {d : DataW H} {p : List MemPlace}
set_option maxRecDepth 100000 in
theorem arg_cf (hv : Value.okWide Tryz.prog W r base 33 v) (h : DataW.Trod enc Tryz.prog W 0 (fun _ => true) true 33 v d p) : ∃ x : Cf, v = x.v ∧ x.ok W := by
  obtain ⟨x, e, h⟩ := rd_arg rdCf u_Cf (by kernel_rfl) hv h
  exact ⟨x, e, h⟩
end
end Go.Proofs.YtahjnonkhbpnpaaGreat
