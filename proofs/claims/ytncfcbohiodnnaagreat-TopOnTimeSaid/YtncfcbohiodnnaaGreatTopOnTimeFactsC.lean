/- TopOnTime: facts on the whole program, C. -/
import Derived.Test.YtncfcbohiodnnaaGreatRows
import Derived.KernelRfl
import Derived.JoinedOf
import Derived.Test.YtncfcbohiodnnaaGreatTopOnTimeFactsA
import Derived.Test.YtncfcbohiodnnaaGreatTopOnTimeFactsB
namespace Go.Proofs.YtncfcbohiodnnaaGreat
set_option maxRecDepth 100000 in
theorem jf : joinedFacts Tryz.prog 3 Tryz.f3 Rows.topOnTimeSpec Rows.topOnTimeRow = true := by
  unfold joinedFacts
  rw [jMay, jIn, jUn, jRe, jNa, jHe, jLa, jMa]
  kernel_rfl
end Go.Proofs.YtncfcbohiodnnaaGreat
