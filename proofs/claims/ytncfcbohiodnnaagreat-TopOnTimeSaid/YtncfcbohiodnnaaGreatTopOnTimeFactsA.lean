/- TopOnTime: facts on the whole program, A. -/
import Derived.Test.YtncfcbohiodnnaaGreatRows
import Derived.KernelRfl
import Derived.JoinedOf
namespace Go.Proofs.YtncfcbohiodnnaaGreat
set_option maxRecDepth 100000 in
theorem jMay : Tryz.prog.mayEnter = true := by kernel_rfl
set_option maxRecDepth 100000 in
theorem jIn : (Rows.topOnTimeRow.inPlace == Tryz.prog.inPlace 3) = true := by kernel_rfl
set_option maxRecDepth 100000 in
theorem jUn : (Rows.topOnTimeRow.unfollowed == Tryz.prog.unfollowed 3) = true := by kernel_rfl
set_option maxRecDepth 100000 in
theorem jRe : (Rows.topOnTimeRow.recurses == Tryz.prog.recurses 3) = true := by kernel_rfl
end Go.Proofs.YtncfcbohiodnnaaGreat
