/-
  No cell of these rows narrows 'for every input' (looked for: loops, veiled, ifaces, maps, wideKeys, modest, calm, conditions, laid).
  DERIVED. THE GIVEN ROWS OF THIS SEAT. 5 by the template 'for every input the law returns true; each argument reads behind the call as it read before'; 0 by the template 'total and deterministic' (their statements: YtjjmnkhlcgjfmaaTotals.lean).
  GIVEN WITH THE SEED: the statements are not yours to turn. If you find one false, say at which input.
  Laid BY PROGRAM, IN A SANDBOX (cutbox-rows.mjs): the forced cells as the released guide's own fill.sh prints them over the translation 9f93348abae9ec1a… (all of the seat's roots in one cut). By AI agents, Wed Nov 11 2026. No macro, syntax, notation, axiom, sorry.
-/
import Derived.Test.YtjjmnkhlcgjfmaaChecked
import GoSem.Claim
import GoSem.ClaimJoined
import GoSem.ClaimMapViews
import Derived.JoinedTies
import Derived.KernelRfl
namespace Go.Proofs.Ytjjmnkhlcgjfmaa
/- THE CELL 'sum', in the pinned program and in every row, IS THE sha256 OF THE DUMP (.gsa) THAT YtjjmnkhlcgjfmaaProg.lean LOADS. Nothing in Lean hashes anything: it is a label: what it is worth is what the hold of that sum in a sandbox is worth. -/
noncomputable def Try.pinned : Pinned := { name := "ytjjmnkhlcgjfmaa", sum := "9f93348abae9ec1ade1423f7dbd26e67cb41a798ec3c035a14a570993f3ace20", checked := Try.checked }
namespace Rows
def none {H : Type} : Left H := { results := [], args := [] }

/-- 'anchorholdlaw36.DigestHex': WHATEVER THE INPUT: true; the input reads as it did. -/
def digestHexSpec : ChangeSpec := { name := "digestHex", fn := fun _ => fun
  | [d1, d2] => { results := [.lit (.bool true)], args := [d1, d2] }
  | _ => none }
def digestHexRow : OpenClaim := { program := "ytjjmnkhlcgjfmaa", sum := "9f93348abae9ec1ade1423f7dbd26e67cb41a798ec3c035a14a570993f3ace20", func := "anchorhold/anchorholdlaw36.DigestHex", spec := "digestHex", inPlace := ["internal/bytealg.IndexByteString"], apart := false }
def DigestHexSaid : Prop := digestHexRow.holds Try.pinned (OpenSpec.ofChange digestHexSpec)

/-- ITS FALSE NEIGHBOUR: 'it returns false'. Refute it at one input. -/
def digestHexWrong : ChangeSpec := { name := "digestHex", fn := fun _ => fun
  | [d1, d2] => { results := [.lit (.bool false)], args := [d1, d2] }
  | _ => none }
def DigestHexWrongFalsely : Prop := digestHexRow.holds Try.pinned (OpenSpec.ofChange digestHexWrong)

/-- 'anchorholdlaw36.DigestBursts': WHATEVER THE INPUT: true; the input reads as it did. -/
def digestBurstsSpec : ChangeSpec := { name := "digestBursts", fn := fun _ => fun
  | [d1, d2, d3] => { results := [.lit (.bool true)], args := [d1, d2, d3] }
  | _ => none }
def digestBurstsRow : OpenClaim := { program := "ytjjmnkhlcgjfmaa", sum := "9f93348abae9ec1ade1423f7dbd26e67cb41a798ec3c035a14a570993f3ace20", func := "anchorhold/anchorholdlaw36.DigestBursts", spec := "digestBursts", inPlace := ["internal/bytealg.IndexByteString"], apart := false }
def DigestBurstsSaid : Prop := digestBurstsRow.holds Try.pinned (OpenSpec.ofChange digestBurstsSpec)

/-- ITS FALSE NEIGHBOUR: 'it returns false'. Refute it at one input. -/
def digestBurstsWrong : ChangeSpec := { name := "digestBursts", fn := fun _ => fun
  | [d1, d2, d3] => { results := [.lit (.bool false)], args := [d1, d2, d3] }
  | _ => none }
def DigestBurstsWrongFalsely : Prop := digestBurstsRow.holds Try.pinned (OpenSpec.ofChange digestBurstsWrong)

/-- 'anchorholdlaw36.DigestApart': WHATEVER THE INPUT: true; the input reads as it did. -/
def digestApartSpec : ChangeSpec := { name := "digestApart", fn := fun _ => fun
  | [d1, d2] => { results := [.lit (.bool true)], args := [d1, d2] }
  | _ => none }
def digestApartRow : OpenClaim := { program := "ytjjmnkhlcgjfmaa", sum := "9f93348abae9ec1ade1423f7dbd26e67cb41a798ec3c035a14a570993f3ace20", func := "anchorhold/anchorholdlaw36.DigestApart", spec := "digestApart", inPlace := ["internal/bytealg.IndexByteString"], apart := false }
def DigestApartSaid : Prop := digestApartRow.holds Try.pinned (OpenSpec.ofChange digestApartSpec)

/-- ITS FALSE NEIGHBOUR: 'it returns false'. Refute it at one input. -/
def digestApartWrong : ChangeSpec := { name := "digestApart", fn := fun _ => fun
  | [d1, d2] => { results := [.lit (.bool false)], args := [d1, d2] }
  | _ => none }
def DigestApartWrongFalsely : Prop := digestApartRow.holds Try.pinned (OpenSpec.ofChange digestApartWrong)

/-- 'anchorholdlaw36.DigestChains': WHATEVER THE INPUT: true; the input reads as it did. -/
def digestChainsSpec : ChangeSpec := { name := "digestChains", fn := fun _ => fun
  | [d1, d2] => { results := [.lit (.bool true)], args := [d1, d2] }
  | _ => none }
def digestChainsRow : OpenClaim := { program := "ytjjmnkhlcgjfmaa", sum := "9f93348abae9ec1ade1423f7dbd26e67cb41a798ec3c035a14a570993f3ace20", func := "anchorhold/anchorholdlaw36.DigestChains", spec := "digestChains", inPlace := ["internal/bytealg.IndexByteString"], apart := false }
def DigestChainsSaid : Prop := digestChainsRow.holds Try.pinned (OpenSpec.ofChange digestChainsSpec)

/-- ITS FALSE NEIGHBOUR: 'it returns false'. Refute it at one input. -/
def digestChainsWrong : ChangeSpec := { name := "digestChains", fn := fun _ => fun
  | [d1, d2] => { results := [.lit (.bool false)], args := [d1, d2] }
  | _ => none }
def DigestChainsWrongFalsely : Prop := digestChainsRow.holds Try.pinned (OpenSpec.ofChange digestChainsWrong)

/-- 'anchorholdlaw36.DigestSums': WHATEVER THE INPUT: true; the input reads as it did. -/
def digestSumsSpec : ChangeSpec := { name := "digestSums", fn := fun _ => fun
  | [d1, d2, d3] => { results := [.lit (.bool true)], args := [d1, d2, d3] }
  | _ => none }
def digestSumsRow : OpenClaim := { program := "ytjjmnkhlcgjfmaa", sum := "9f93348abae9ec1ade1423f7dbd26e67cb41a798ec3c035a14a570993f3ace20", func := "anchorhold/anchorholdlaw36.DigestSums", spec := "digestSums", inPlace := ["internal/bytealg.IndexByteString"], apart := false }
def DigestSumsSaid : Prop := digestSumsRow.holds Try.pinned (OpenSpec.ofChange digestSumsSpec)

/-- ITS FALSE NEIGHBOUR: 'it returns false'. Refute it at one input. -/
def digestSumsWrong : ChangeSpec := { name := "digestSums", fn := fun _ => fun
  | [d1, d2, d3] => { results := [.lit (.bool false)], args := [d1, d2, d3] }
  | _ => none }
def DigestSumsWrongFalsely : Prop := digestSumsRow.holds Try.pinned (OpenSpec.ofChange digestSumsWrong)

/- THE SECOND FORM. 'bulk': how many values and letters a reading holds, each counted each time it is reached (what is shared counts as often as it is met; a slice's spare places count too). A statement '..UptoSaid' is the law's where the arguments, and the package variables that the reading takes, are together of bulk at most 1048576: NARROWER than '..Said'. Prove '..Said' where nothing that the law and all that it calls make is longer than what came in: it says more and counts as full. Else prove '..UptoSaid'. A law counts once. -/
mutual
def uptoBulk {H : Type} : DataW H → Nat
  | .lit (.string bytes) => bytes.length + 1
  | .lit _ => 1
  | .nil => 1
  | .ptr d => uptoBulk d + 1
  | .slice elems spare => uptoBulkAll elems + uptoBulkAll spare + 1
  | .agg parts => uptoBulkAll parts + 1
  | .iface _ d => uptoBulk d + 1
  | .map entries => uptoBulkEntries entries + 1
  | .held _ => 1
def uptoBulkAll {H : Type} : List (DataW H) → Nat
  | [] => 0
  | d :: r => uptoBulk d + uptoBulkAll r
def uptoBulkEntries {H : Type} : List (Lit × DataW H) → Nat
  | [] => 0
  | x :: r => uptoBulkEntry x + uptoBulkEntries r
def uptoBulkEntry {H : Type} : Lit × DataW H → Nat
  | (.string bytes, d) => bytes.length + uptoBulk d + 1
  | (_, d) => uptoBulk d + 1
 end
def uptoSmall : (H : Type) → List (DataW H) → Bool := fun _ ds => decide (uptoBulkAll ds ≤ 1048576)
def OpenSpec.upto (s : _root_.Go.ChangeSpec) : _root_.Go.OpenSpec := { _root_.Go.OpenSpec.ofChange s with cond := some uptoSmall }

/-- 'anchorholdlaw36.DigestHex', WHERE WHAT IT READS IS OF BULK AT MOST 1048576: true; the input reads as it did. -/
def digestHexUptoRow : OpenClaim := { program := "ytjjmnkhlcgjfmaa", sum := "9f93348abae9ec1ade1423f7dbd26e67cb41a798ec3c035a14a570993f3ace20", func := "anchorhold/anchorholdlaw36.DigestHex", spec := "digestHex", inPlace := ["internal/bytealg.IndexByteString"], apart := false, narrowed := true }
def DigestHexUptoSaid : Prop := digestHexUptoRow.holds Try.pinned (OpenSpec.upto digestHexSpec)

/-- 'anchorholdlaw36.DigestBursts', WHERE WHAT IT READS IS OF BULK AT MOST 1048576: true; the input reads as it did. -/
def digestBurstsUptoRow : OpenClaim := { program := "ytjjmnkhlcgjfmaa", sum := "9f93348abae9ec1ade1423f7dbd26e67cb41a798ec3c035a14a570993f3ace20", func := "anchorhold/anchorholdlaw36.DigestBursts", spec := "digestBursts", inPlace := ["internal/bytealg.IndexByteString"], apart := false, narrowed := true }
def DigestBurstsUptoSaid : Prop := digestBurstsUptoRow.holds Try.pinned (OpenSpec.upto digestBurstsSpec)

/-- 'anchorholdlaw36.DigestApart', WHERE WHAT IT READS IS OF BULK AT MOST 1048576: true; the input reads as it did. -/
def digestApartUptoRow : OpenClaim := { program := "ytjjmnkhlcgjfmaa", sum := "9f93348abae9ec1ade1423f7dbd26e67cb41a798ec3c035a14a570993f3ace20", func := "anchorhold/anchorholdlaw36.DigestApart", spec := "digestApart", inPlace := ["internal/bytealg.IndexByteString"], apart := false, narrowed := true }
def DigestApartUptoSaid : Prop := digestApartUptoRow.holds Try.pinned (OpenSpec.upto digestApartSpec)

/-- 'anchorholdlaw36.DigestChains', WHERE WHAT IT READS IS OF BULK AT MOST 1048576: true; the input reads as it did. -/
def digestChainsUptoRow : OpenClaim := { program := "ytjjmnkhlcgjfmaa", sum := "9f93348abae9ec1ade1423f7dbd26e67cb41a798ec3c035a14a570993f3ace20", func := "anchorhold/anchorholdlaw36.DigestChains", spec := "digestChains", inPlace := ["internal/bytealg.IndexByteString"], apart := false, narrowed := true }
def DigestChainsUptoSaid : Prop := digestChainsUptoRow.holds Try.pinned (OpenSpec.upto digestChainsSpec)

/-- 'anchorholdlaw36.DigestSums', WHERE WHAT IT READS IS OF BULK AT MOST 1048576: true; the input reads as it did. -/
def digestSumsUptoRow : OpenClaim := { program := "ytjjmnkhlcgjfmaa", sum := "9f93348abae9ec1ade1423f7dbd26e67cb41a798ec3c035a14a570993f3ace20", func := "anchorhold/anchorholdlaw36.DigestSums", spec := "digestSums", inPlace := ["internal/bytealg.IndexByteString"], apart := false, narrowed := true }
def DigestSumsUptoSaid : Prop := digestSumsUptoRow.holds Try.pinned (OpenSpec.upto digestSumsSpec)

end Rows
end Go.Proofs.Ytjjmnkhlcgjfmaa
