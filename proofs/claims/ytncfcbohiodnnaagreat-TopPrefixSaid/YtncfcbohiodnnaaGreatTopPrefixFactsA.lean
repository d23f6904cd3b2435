/- TopPrefix: facts on the whole program, A. -/
import Derived.Test.YtncfcbohiodnnaaGreatRows
import Derived.KernelRfl
import Derived.JoinedOf
namespace Go.Proofs.YtncfcbohiodnnaaGreat
set_option maxRecDepth 100000 in
theorem jMay : Tryz.prog.mayEnter = true := by kernel_rfl
set_option maxRecDepth 100000 in
theorem jIn : (Rows.topPrefixRow.inPlace == Tryz.prog.inPlace 5) = true := by kernel_rfl
set_option maxRecDepth 100000 in
theorem jUn : (Rows.topPrefixRow.unfollowed == Tryz.prog.unfollowed 5) = true := by kernel_rfl
set_option maxRecDepth 100000 in
theorem jRe : (Rows.topPrefixRow.recurses == Tryz.prog.recurses 5) = true := by kernel_rfl
end Go.Proofs.YtncfcbohiodnnaaGreat
