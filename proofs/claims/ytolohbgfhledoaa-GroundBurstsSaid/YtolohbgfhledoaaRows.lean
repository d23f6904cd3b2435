/-
  No cell of these rows narrows 'for every input' (looked for: loops, veiled, ifaces, maps, wideKeys, modest, calm, conditions, laid).
  DERIVED. THE GIVEN ROWS OF THIS SEAT. 5 by the template 'for every input the law returns true; each argument reads behind the call as it read before'; 0 by the template 'total and deterministic' (their statements: YtolohbgfhledoaaTotals.lean).
  GIVEN WITH THE SEED: the statements are not yours to turn. If you find one false, say at which input.
  Laid BY PROGRAM, IN A SANDBOX (cutbox-rows.mjs): the forced cells as the released guide's own fill.sh prints them over the translation d8fa382cdaefb094… (all of the seat's roots in one cut). By AI agents, Wed Nov 11 2026. No macro, syntax, notation, axiom, sorry.
-/
import Derived.Test.YtolohbgfhledoaaChecked
import GoSem.Claim
import GoSem.ClaimJoined
import GoSem.ClaimMapViews
import Derived.JoinedTies
import Derived.KernelRfl
namespace Go.Proofs.Ytolohbgfhledoaa
/- THE CELL 'sum', in the pinned program and in every row, IS THE sha256 OF THE DUMP (.gsa) THAT YtolohbgfhledoaaProg.lean LOADS. Nothing in Lean hashes anything: it is a label: what it is worth is what the hold of that sum in a sandbox is worth. -/
noncomputable def Try.pinned : Pinned := { name := "ytolohbgfhledoaa", sum := "d8fa382cdaefb09477c66f365e927991afe345bf107f17c55af3ed3b0237f5b5", checked := Try.checked }
namespace Rows
def none {H : Type} : Left H := { results := [], args := [] }

/-- 'anchorholdlaw38.GroundPacks': WHATEVER THE INPUT: true; the input reads as it did. -/
def groundPacksSpec : ChangeSpec := { name := "groundPacks", fn := fun _ => fun
  | [d1, d2] => { results := [.lit (.bool true)], args := [d1, d2] }
  | _ => none }
def groundPacksRow : OpenClaim := { program := "ytolohbgfhledoaa", sum := "d8fa382cdaefb09477c66f365e927991afe345bf107f17c55af3ed3b0237f5b5", func := "anchorhold/anchorholdlaw38.GroundPacks", spec := "groundPacks", unfollowed := true, recurses := true, apart := false }
def GroundPacksSaid : Prop := groundPacksRow.holds Try.pinned (OpenSpec.ofChange groundPacksSpec)

/-- ITS FALSE NEIGHBOUR: 'it returns false'. Refute it at one input. -/
def groundPacksWrong : ChangeSpec := { name := "groundPacks", fn := fun _ => fun
  | [d1, d2] => { results := [.lit (.bool false)], args := [d1, d2] }
  | _ => none }
def GroundPacksWrongFalsely : Prop := groundPacksRow.holds Try.pinned (OpenSpec.ofChange groundPacksWrong)

/-- 'anchorholdlaw38.GroundBursts': WHATEVER THE INPUT: true; the input reads as it did. -/
def groundBurstsSpec : ChangeSpec := { name := "groundBursts", fn := fun _ => fun
  | [d1, d2, d3] => { results := [.lit (.bool true)], args := [d1, d2, d3] }
  | _ => none }
def groundBurstsRow : OpenClaim := { program := "ytolohbgfhledoaa", sum := "d8fa382cdaefb09477c66f365e927991afe345bf107f17c55af3ed3b0237f5b5", func := "anchorhold/anchorholdlaw38.GroundBursts", spec := "groundBursts", unfollowed := true, recurses := true, apart := false }
def GroundBurstsSaid : Prop := groundBurstsRow.holds Try.pinned (OpenSpec.ofChange groundBurstsSpec)

/-- ITS FALSE NEIGHBOUR: 'it returns false'. Refute it at one input. -/
def groundBurstsWrong : ChangeSpec := { name := "groundBursts", fn := fun _ => fun
  | [d1, d2, d3] => { results := [.lit (.bool false)], args := [d1, d2, d3] }
  | _ => none }
def GroundBurstsWrongFalsely : Prop := groundBurstsRow.holds Try.pinned (OpenSpec.ofChange groundBurstsWrong)

/-- 'anchorholdlaw38.GroundStreams': WHATEVER THE INPUT: true; the input reads as it did. -/
def groundStreamsSpec : ChangeSpec := { name := "groundStreams", fn := fun _ => fun
  | [d] => { results := [.lit (.bool true)], args := [d] }
  | _ => none }
def groundStreamsRow : OpenClaim := { program := "ytolohbgfhledoaa", sum := "d8fa382cdaefb09477c66f365e927991afe345bf107f17c55af3ed3b0237f5b5", func := "anchorhold/anchorholdlaw38.GroundStreams", spec := "groundStreams", unfollowed := true, recurses := true, apart := false }
def GroundStreamsSaid : Prop := groundStreamsRow.holds Try.pinned (OpenSpec.ofChange groundStreamsSpec)

/-- ITS FALSE NEIGHBOUR: 'it returns false'. Refute it at one input. -/
def groundStreamsWrong : ChangeSpec := { name := "groundStreams", fn := fun _ => fun
  | [d] => { results := [.lit (.bool false)], args := [d] }
  | _ => none }
def GroundStreamsWrongFalsely : Prop := groundStreamsRow.holds Try.pinned (OpenSpec.ofChange groundStreamsWrong)

/-- 'anchorholdlaw38.GroundHears': WHATEVER THE INPUT: true; the input reads as it did. -/
def groundHearsSpec : ChangeSpec := { name := "groundHears", fn := fun _ => fun
  | [d1, d2] => { results := [.lit (.bool true)], args := [d1, d2] }
  | _ => none }
def groundHearsRow : OpenClaim := { program := "ytolohbgfhledoaa", sum := "d8fa382cdaefb09477c66f365e927991afe345bf107f17c55af3ed3b0237f5b5", func := "anchorhold/anchorholdlaw38.GroundHears", spec := "groundHears", unfollowed := true, recurses := true, apart := false }
def GroundHearsSaid : Prop := groundHearsRow.holds Try.pinned (OpenSpec.ofChange groundHearsSpec)

/-- ITS FALSE NEIGHBOUR: 'it returns false'. Refute it at one input. -/
def groundHearsWrong : ChangeSpec := { name := "groundHears", fn := fun _ => fun
  | [d1, d2] => { results := [.lit (.bool false)], args := [d1, d2] }
  | _ => none }
def GroundHearsWrongFalsely : Prop := groundHearsRow.holds Try.pinned (OpenSpec.ofChange groundHearsWrong)

/-- 'anchorholdlaw38.GroundNone': WHATEVER THE INPUT: true; the input reads as it did. -/
def groundNoneSpec : ChangeSpec := { name := "groundNone", fn := fun _ => fun
  | [d] => { results := [.lit (.bool true)], args := [d] }
  | _ => none }
def groundNoneRow : OpenClaim := { program := "ytolohbgfhledoaa", sum := "d8fa382cdaefb09477c66f365e927991afe345bf107f17c55af3ed3b0237f5b5", func := "anchorhold/anchorholdlaw38.GroundNone", spec := "groundNone", unfollowed := true, recurses := true, apart := false }
def GroundNoneSaid : Prop := groundNoneRow.holds Try.pinned (OpenSpec.ofChange groundNoneSpec)

/-- ITS FALSE NEIGHBOUR: 'it returns false'. Refute it at one input. -/
def groundNoneWrong : ChangeSpec := { name := "groundNone", fn := fun _ => fun
  | [d] => { results := [.lit (.bool false)], args := [d] }
  | _ => none }
def GroundNoneWrongFalsely : Prop := groundNoneRow.holds Try.pinned (OpenSpec.ofChange groundNoneWrong)

/- THE SECOND FORM. 'bulk': how many values and letters a reading holds, each counted each time it is reached (what is shared counts as often as it is met; a slice's spare places count too). A statement '..UptoSaid' is the law's where the arguments, and the package variables that the reading takes, are together of bulk at most 1048576: NARROWER than '..Said'. Prove '..Said' where nothing that the law and all that it calls make is longer than what came in: it says more and counts as full. Else prove '..UptoSaid'. A law counts once. -/
mutual
def uptoBulk {H : Type} : DataW H → Nat
  | .lit (.string bytes) => bytes.length + 1
  | .lit _ => 1
  | .nil => 1
  | .ptr d => uptoBulk d + 1
  | .slice elems spare => uptoBulkAll elems + uptoBulkAll spare + 1
  | .agg parts => uptoBulkAll parts + 1
  | .iface _ d => uptoBulk d + 1
  | .map entries => uptoBulkEntries entries + 1
  | .held _ => 1
def uptoBulkAll {H : Type} : List (DataW H) → Nat
  | [] => 0
  | d :: r => uptoBulk d + uptoBulkAll r
def uptoBulkEntries {H : Type} : List (Lit × DataW H) → Nat
  | [] => 0
  | x :: r => uptoBulkEntry x + uptoBulkEntries r
def uptoBulkEntry {H : Type} : Lit × DataW H → Nat
  | (.string bytes, d) => bytes.length + uptoBulk d + 1
  | (_, d) => uptoBulk d + 1
 end
def uptoSmall : (H : Type) → List (DataW H) → Bool := fun _ ds => decide (uptoBulkAll ds ≤ 1048576)
def OpenSpec.upto (s : _root_.Go.ChangeSpec) : _root_.Go.OpenSpec := { _root_.Go.OpenSpec.ofChange s with cond := some uptoSmall }

/-- 'anchorholdlaw38.GroundPacks', WHERE WHAT IT READS IS OF BULK AT MOST 1048576: true; the input reads as it did. -/
def groundPacksUptoRow : OpenClaim := { program := "ytolohbgfhledoaa", sum := "d8fa382cdaefb09477c66f365e927991afe345bf107f17c55af3ed3b0237f5b5", func := "anchorhold/anchorholdlaw38.GroundPacks", spec := "groundPacks", unfollowed := true, recurses := true, apart := false, narrowed := true }
def GroundPacksUptoSaid : Prop := groundPacksUptoRow.holds Try.pinned (OpenSpec.upto groundPacksSpec)

/-- 'anchorholdlaw38.GroundBursts', WHERE WHAT IT READS IS OF BULK AT MOST 1048576: true; the input reads as it did. -/
def groundBurstsUptoRow : OpenClaim := { program := "ytolohbgfhledoaa", sum := "d8fa382cdaefb09477c66f365e927991afe345bf107f17c55af3ed3b0237f5b5", func := "anchorhold/anchorholdlaw38.GroundBursts", spec := "groundBursts", unfollowed := true, recurses := true, apart := false, narrowed := true }
def GroundBurstsUptoSaid : Prop := groundBurstsUptoRow.holds Try.pinned (OpenSpec.upto groundBurstsSpec)

/-- 'anchorholdlaw38.GroundStreams', WHERE WHAT IT READS IS OF BULK AT MOST 1048576: true; the input reads as it did. -/
def groundStreamsUptoRow : OpenClaim := { program := "ytolohbgfhledoaa", sum := "d8fa382cdaefb09477c66f365e927991afe345bf107f17c55af3ed3b0237f5b5", func := "anchorhold/anchorholdlaw38.GroundStreams", spec := "groundStreams", unfollowed := true, recurses := true, apart := false, narrowed := true }
def GroundStreamsUptoSaid : Prop := groundStreamsUptoRow.holds Try.pinned (OpenSpec.upto groundStreamsSpec)

/-- 'anchorholdlaw38.GroundHears', WHERE WHAT IT READS IS OF BULK AT MOST 1048576: true; the input reads as it did. -/
def groundHearsUptoRow : OpenClaim := { program := "ytolohbgfhledoaa", sum := "d8fa382cdaefb09477c66f365e927991afe345bf107f17c55af3ed3b0237f5b5", func := "anchorhold/anchorholdlaw38.GroundHears", spec := "groundHears", unfollowed := true, recurses := true, apart := false, narrowed := true }
def GroundHearsUptoSaid : Prop := groundHearsUptoRow.holds Try.pinned (OpenSpec.upto groundHearsSpec)

/-- 'anchorholdlaw38.GroundNone', WHERE WHAT IT READS IS OF BULK AT MOST 1048576: true; the input reads as it did. -/
def groundNoneUptoRow : OpenClaim := { program := "ytolohbgfhledoaa", sum := "d8fa382cdaefb09477c66f365e927991afe345bf107f17c55af3ed3b0237f5b5", func := "anchorhold/anchorholdlaw38.GroundNone", spec := "groundNone", unfollowed := true, recurses := true, apart := false, narrowed := true }
def GroundNoneUptoSaid : Prop := groundNoneUptoRow.holds Try.pinned (OpenSpec.upto groundNoneSpec)

end Rows
end Go.Proofs.Ytolohbgfhledoaa
