/-
  No cell of these rows narrows 'for every input' (looked for: loops, veiled, ifaces, maps, wideKeys, modest, calm, conditions, laid).
  DERIVED. THE GIVEN ROWS OF THIS SEAT. 4 by the template 'for every input the law returns true; each argument reads behind the call as it read before'; 0 by the template 'total and deterministic' (their statements: YtfdnfjcaaagkgaaTotals.lean).
  GIVEN WITH THE SEED: the statements are not yours to turn. If you find one false, say at which input.
  Laid BY PROGRAM, IN A SANDBOX (cutbox-rows.mjs): the forced cells as the released guide's own fill.sh prints them over the translation f18071bd8a070aaa… (all of the seat's roots in one cut). By AI agents, Wed Nov 11 2026. No macro, syntax, notation, axiom, sorry.
-/
import Derived.Test.YtfdnfjcaaagkgaaChecked
import GoSem.Claim
import GoSem.ClaimJoined
import GoSem.ClaimMapViews
import Derived.JoinedTies
import Derived.KernelRfl
namespace Go.Proofs.Ytfdnfjcaaagkgaa
/- THE CELL 'sum', in the pinned program and in every row, IS THE sha256 OF THE DUMP (.gsa) THAT YtfdnfjcaaagkgaaProg.lean LOADS. Nothing in Lean hashes anything: it is a label: what it is worth is what the hold of that sum in a sandbox is worth. -/
noncomputable def Try.pinned : Pinned := { name := "ytfdnfjcaaagkgaa", sum := "f18071bd8a070aaa7a13f6780176053a4e391bc4128a1fb69377f973c676790e", checked := Try.checked }
namespace Rows
def none {H : Type} : Left H := { results := [], args := [] }

/-- 'anchorholdlaw23.MonitorPlays': WHATEVER THE INPUT: true; the input reads as it did. -/
def monitorPlaysSpec : ChangeSpec := { name := "monitorPlays", fn := fun _ => fun
  | [d1, d2] => { results := [.lit (.bool true)], args := [d1, d2] }
  | _ => none }
def monitorPlaysRow : OpenClaim := { program := "ytfdnfjcaaagkgaa", sum := "f18071bd8a070aaa7a13f6780176053a4e391bc4128a1fb69377f973c676790e", func := "anchorhold/anchorholdlaw23.MonitorPlays", spec := "monitorPlays", apart := false }
def MonitorPlaysSaid : Prop := monitorPlaysRow.holds Try.pinned (OpenSpec.ofChange monitorPlaysSpec)

/-- ITS FALSE NEIGHBOUR: 'it returns false'. Refute it at one input. -/
def monitorPlaysWrong : ChangeSpec := { name := "monitorPlays", fn := fun _ => fun
  | [d1, d2] => { results := [.lit (.bool false)], args := [d1, d2] }
  | _ => none }
def MonitorPlaysWrongFalsely : Prop := monitorPlaysRow.holds Try.pinned (OpenSpec.ofChange monitorPlaysWrong)

/-- 'anchorholdlaw23.MonitorActs': WHATEVER THE INPUT: true; the input reads as it did. -/
def monitorActsSpec : ChangeSpec := { name := "monitorActs", fn := fun _ => fun
  | [d1, d2, d3] => { results := [.lit (.bool true)], args := [d1, d2, d3] }
  | _ => none }
def monitorActsRow : OpenClaim := { program := "ytfdnfjcaaagkgaa", sum := "f18071bd8a070aaa7a13f6780176053a4e391bc4128a1fb69377f973c676790e", func := "anchorhold/anchorholdlaw23.MonitorActs", spec := "monitorActs", apart := false }
def MonitorActsSaid : Prop := monitorActsRow.holds Try.pinned (OpenSpec.ofChange monitorActsSpec)

/-- ITS FALSE NEIGHBOUR: 'it returns false'. Refute it at one input. -/
def monitorActsWrong : ChangeSpec := { name := "monitorActs", fn := fun _ => fun
  | [d1, d2, d3] => { results := [.lit (.bool false)], args := [d1, d2, d3] }
  | _ => none }
def MonitorActsWrongFalsely : Prop := monitorActsRow.holds Try.pinned (OpenSpec.ofChange monitorActsWrong)

/-- 'anchorholdlaw23.MonitorSums': WHATEVER THE INPUT: true; the input reads as it did. -/
def monitorSumsSpec : ChangeSpec := { name := "monitorSums", fn := fun _ => fun
  | [d1, d2] => { results := [.lit (.bool true)], args := [d1, d2] }
  | _ => none }
def monitorSumsRow : OpenClaim := { program := "ytfdnfjcaaagkgaa", sum := "f18071bd8a070aaa7a13f6780176053a4e391bc4128a1fb69377f973c676790e", func := "anchorhold/anchorholdlaw23.MonitorSums", spec := "monitorSums", apart := false }
def MonitorSumsSaid : Prop := monitorSumsRow.holds Try.pinned (OpenSpec.ofChange monitorSumsSpec)

/-- ITS FALSE NEIGHBOUR: 'it returns false'. Refute it at one input. -/
def monitorSumsWrong : ChangeSpec := { name := "monitorSums", fn := fun _ => fun
  | [d1, d2] => { results := [.lit (.bool false)], args := [d1, d2] }
  | _ => none }
def MonitorSumsWrongFalsely : Prop := monitorSumsRow.holds Try.pinned (OpenSpec.ofChange monitorSumsWrong)

/-- 'anchorholdlaw23.MonitorWords': WHATEVER THE INPUT: true; the input reads as it did. -/
def monitorWordsSpec : ChangeSpec := { name := "monitorWords", fn := fun _ => fun
  | [d1, d2] => { results := [.lit (.bool true)], args := [d1, d2] }
  | _ => none }
def monitorWordsRow : OpenClaim := { program := "ytfdnfjcaaagkgaa", sum := "f18071bd8a070aaa7a13f6780176053a4e391bc4128a1fb69377f973c676790e", func := "anchorhold/anchorholdlaw23.MonitorWords", spec := "monitorWords", apart := false }
def MonitorWordsSaid : Prop := monitorWordsRow.holds Try.pinned (OpenSpec.ofChange monitorWordsSpec)

/-- ITS FALSE NEIGHBOUR: 'it returns false'. Refute it at one input. -/
def monitorWordsWrong : ChangeSpec := { name := "monitorWords", fn := fun _ => fun
  | [d1, d2] => { results := [.lit (.bool false)], args := [d1, d2] }
  | _ => none }
def MonitorWordsWrongFalsely : Prop := monitorWordsRow.holds Try.pinned (OpenSpec.ofChange monitorWordsWrong)

/- THE SECOND FORM. 'bulk': how many values and letters a reading holds, each counted each time it is reached (what is shared counts as often as it is met; a slice's spare places count too). A statement '..UptoSaid' is the law's where the arguments, and the package variables that the reading takes, are together of bulk at most 1048576: NARROWER than '..Said'. Prove '..Said' where nothing that the law and all that it calls make is longer than what came in: it says more and counts as full. Else prove '..UptoSaid'. A law counts once. -/
mutual
def uptoBulk {H : Type} : DataW H → Nat
  | .lit (.string bytes) => bytes.length + 1
  | .lit _ => 1
  | .nil => 1
  | .ptr d => uptoBulk d + 1
  | .slice elems spare => uptoBulkAll elems + uptoBulkAll spare + 1
  | .agg parts => uptoBulkAll parts + 1
  | .iface _ d => uptoBulk d + 1
  | .map entries => uptoBulkEntries entries + 1
  | .held _ => 1
def uptoBulkAll {H : Type} : List (DataW H) → Nat
  | [] => 0
  | d :: r => uptoBulk d + uptoBulkAll r
def uptoBulkEntries {H : Type} : List (Lit × DataW H) → Nat
  | [] => 0
  | x :: r => uptoBulkEntry x + uptoBulkEntries r
def uptoBulkEntry {H : Type} : Lit × DataW H → Nat
  | (.string bytes, d) => bytes.length + uptoBulk d + 1
  | (_, d) => uptoBulk d + 1
 end
def uptoSmall : (H : Type) → List (DataW H) → Bool := fun _ ds => decide (uptoBulkAll ds ≤ 1048576)
def OpenSpec.upto (s : _root_.Go.ChangeSpec) : _root_.Go.OpenSpec := { _root_.Go.OpenSpec.ofChange s with cond := some uptoSmall }

/-- 'anchorholdlaw23.MonitorPlays', WHERE WHAT IT READS IS OF BULK AT MOST 1048576: true; the input reads as it did. -/
def monitorPlaysUptoRow : OpenClaim := { program := "ytfdnfjcaaagkgaa", sum := "f18071bd8a070aaa7a13f6780176053a4e391bc4128a1fb69377f973c676790e", func := "anchorhold/anchorholdlaw23.MonitorPlays", spec := "monitorPlays", apart := false, narrowed := true }
def MonitorPlaysUptoSaid : Prop := monitorPlaysUptoRow.holds Try.pinned (OpenSpec.upto monitorPlaysSpec)

/-- 'anchorholdlaw23.MonitorActs', WHERE WHAT IT READS IS OF BULK AT MOST 1048576: true; the input reads as it did. -/
def monitorActsUptoRow : OpenClaim := { program := "ytfdnfjcaaagkgaa", sum := "f18071bd8a070aaa7a13f6780176053a4e391bc4128a1fb69377f973c676790e", func := "anchorhold/anchorholdlaw23.MonitorActs", spec := "monitorActs", apart := false, narrowed := true }
def MonitorActsUptoSaid : Prop := monitorActsUptoRow.holds Try.pinned (OpenSpec.upto monitorActsSpec)

/-- 'anchorholdlaw23.MonitorSums', WHERE WHAT IT READS IS OF BULK AT MOST 1048576: true; the input reads as it did. -/
def monitorSumsUptoRow : OpenClaim := { program := "ytfdnfjcaaagkgaa", sum := "f18071bd8a070aaa7a13f6780176053a4e391bc4128a1fb69377f973c676790e", func := "anchorhold/anchorholdlaw23.MonitorSums", spec := "monitorSums", apart := false, narrowed := true }
def MonitorSumsUptoSaid : Prop := monitorSumsUptoRow.holds Try.pinned (OpenSpec.upto monitorSumsSpec)

/-- 'anchorholdlaw23.MonitorWords', WHERE WHAT IT READS IS OF BULK AT MOST 1048576: true; the input reads as it did. -/
def monitorWordsUptoRow : OpenClaim := { program := "ytfdnfjcaaagkgaa", sum := "f18071bd8a070aaa7a13f6780176053a4e391bc4128a1fb69377f973c676790e", func := "anchorhold/anchorholdlaw23.MonitorWords", spec := "monitorWords", apart := false, narrowed := true }
def MonitorWordsUptoSaid : Prop := monitorWordsUptoRow.holds Try.pinned (OpenSpec.upto monitorWordsSpec)

end Rows
end Go.Proofs.Ytfdnfjcaaagkgaa
