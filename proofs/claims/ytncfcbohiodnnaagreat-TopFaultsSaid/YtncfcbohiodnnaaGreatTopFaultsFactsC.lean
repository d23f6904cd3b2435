/- TopFaults: facts on the whole program, C. -/
import Derived.Test.YtncfcbohiodnnaaGreatRows
import Derived.KernelRfl
import Derived.JoinedOf
import Derived.Test.YtncfcbohiodnnaaGreatTopFaultsFactsA
import Derived.Test.YtncfcbohiodnnaaGreatTopFaultsFactsB
namespace Go.Proofs.YtncfcbohiodnnaaGreat
set_option maxRecDepth 100000 in
theorem jf : joinedFacts Tryz.prog 4 Tryz.f4 Rows.topFaultsSpec Rows.topFaultsRow = true := by
  unfold joinedFacts
  rw [jMay, jIn, jUn, jRe, jNa, jHe, jLa, jMa]
  kernel_rfl
end Go.Proofs.YtncfcbohiodnnaaGreat
