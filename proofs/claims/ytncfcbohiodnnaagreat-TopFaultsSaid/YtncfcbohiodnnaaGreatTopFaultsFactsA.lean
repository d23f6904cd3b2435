/- TopFaults: facts on the whole program, A. -/
import Derived.Test.YtncfcbohiodnnaaGreatRows
import Derived.KernelRfl
import Derived.JoinedOf
namespace Go.Proofs.YtncfcbohiodnnaaGreat
set_option maxRecDepth 100000 in
theorem jMay : Tryz.prog.mayEnter = true := by kernel_rfl
set_option maxRecDepth 100000 in
theorem jIn : (Rows.topFaultsRow.inPlace == Tryz.prog.inPlace 4) = true := by kernel_rfl
set_option maxRecDepth 100000 in
theorem jUn : (Rows.topFaultsRow.unfollowed == Tryz.prog.unfollowed 4) = true := by kernel_rfl
set_option maxRecDepth 100000 in
theorem jRe : (Rows.topFaultsRow.recurses == Tryz.prog.recurses 4) = true := by kernel_rfl
end Go.Proofs.YtncfcbohiodnnaaGreat
