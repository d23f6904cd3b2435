/- TopPrefix: facts on the whole program, C. -/
import Derived.Test.YtncfcbohiodnnaaGreatRows
import Derived.KernelRfl
import Derived.JoinedOf
import Derived.Test.YtncfcbohiodnnaaGreatTopPrefixFactsA
import Derived.Test.YtncfcbohiodnnaaGreatTopPrefixFactsB
namespace Go.Proofs.YtncfcbohiodnnaaGreat
set_option maxRecDepth 100000 in
theorem jf : joinedFacts Tryz.prog 5 Tryz.f5 Rows.topPrefixSpec Rows.topPrefixRow = true := by
  unfold joinedFacts
  rw [jMay, jIn, jUn, jRe, jNa, jHe, jLa, jMa]
  kernel_rfl
end Go.Proofs.YtncfcbohiodnnaaGreat
