/-
  No cell of these rows narrows 'for every input' (looked for: loops, veiled, ifaces, maps, wideKeys, modest, calm, conditions, laid).
  DERIVED. THE GIVEN ROWS OF THIS SEAT. 4 by the template 'for every input the law returns true; each argument reads behind the call as it read before'; 0 by the template 'total and deterministic' (their statements: YtahjnonkhbpnpaaGreatTotals.lean).
  GIVEN WITH THE SEED: the statements are not yours to turn. If you find one false, say at which input.
  Laid BY PROGRAM, IN A SANDBOX (cutbox-rows.mjs): the forced cells as the released guide's own fill.sh prints them over the translation 04ab495f8f1a081e… (all of the seat's roots in one cut). By AI agents, Wed Nov 11 2026. No macro, syntax, notation, axiom, sorry.
-/
import Derived.Test.YtahjnonkhbpnpaaGreatChecked
import GoSem.Claim
import GoSem.ClaimJoined
import GoSem.ClaimMapViews
import Derived.JoinedTies
import Derived.KernelRfl
namespace Go.Proofs.YtahjnonkhbpnpaaGreat
/- THE CELL 'sum', in the pinned program and in every row, IS THE sha256 OF THE DUMP (.gsa) THAT YtahjnonkhbpnpaaGreatProg.lean LOADS. Nothing in Lean hashes anything: it is a label: what it is worth is what the hold of that sum in a sandbox is worth. -/
noncomputable def Tryz.pinned : Pinned := { name := "ytahjnonkhbpnpaagreat", sum := "04ab495f8f1a081e31a2f7809b9967ff348019170aec63f2c3e38f916dc495bb", checked := Tryz.checked }
namespace Rows
def none {H : Type} : Left H := { results := [], args := [] }

/-- 'anchorholdlaw08.ConfWrites': WHATEVER THE INPUT: true; the input reads as it did. -/
def confWritesSpec : ChangeSpec := { name := "confWrites", fn := fun _ => fun
  | [d] => { results := [.lit (.bool true)], args := [d] }
  | _ => none }
def confWritesRow : OpenClaim := { program := "ytahjnonkhbpnpaagreat", sum := "04ab495f8f1a081e31a2f7809b9967ff348019170aec63f2c3e38f916dc495bb", func := "anchorhold/anchorholdlaw08.ConfWrites", spec := "confWrites", unfollowed := true, recurses := true, apart := false }
def ConfWritesSaid : Prop := confWritesRow.holds Tryz.pinned (OpenSpec.ofChange confWritesSpec)

/-- ITS FALSE NEIGHBOUR: 'it returns false'. Refute it at one input. -/
def confWritesWrong : ChangeSpec := { name := "confWrites", fn := fun _ => fun
  | [d] => { results := [.lit (.bool false)], args := [d] }
  | _ => none }
def ConfWritesWrongFalsely : Prop := confWritesRow.holds Tryz.pinned (OpenSpec.ofChange confWritesWrong)

/-- 'anchorholdlaw08.ConfReads': WHATEVER THE INPUT: true; the input reads as it did. -/
def confReadsSpec : ChangeSpec := { name := "confReads", fn := fun _ => fun
  | [d] => { results := [.lit (.bool true)], args := [d] }
  | _ => none }
def confReadsRow : OpenClaim := { program := "ytahjnonkhbpnpaagreat", sum := "04ab495f8f1a081e31a2f7809b9967ff348019170aec63f2c3e38f916dc495bb", func := "anchorhold/anchorholdlaw08.ConfReads", spec := "confReads", unfollowed := true, recurses := true, apart := false }
def ConfReadsSaid : Prop := confReadsRow.holds Tryz.pinned (OpenSpec.ofChange confReadsSpec)

/-- ITS FALSE NEIGHBOUR: 'it returns false'. Refute it at one input. -/
def confReadsWrong : ChangeSpec := { name := "confReads", fn := fun _ => fun
  | [d] => { results := [.lit (.bool false)], args := [d] }
  | _ => none }
def ConfReadsWrongFalsely : Prop := confReadsRow.holds Tryz.pinned (OpenSpec.ofChange confReadsWrong)

/-- 'anchorholdlaw08.ConfBack': WHATEVER THE INPUT: true; the input reads as it did. -/
def confBackSpec : ChangeSpec := { name := "confBack", fn := fun _ => fun
  | [d1, d2] => { results := [.lit (.bool true)], args := [d1, d2] }
  | _ => none }
def confBackRow : OpenClaim := { program := "ytahjnonkhbpnpaagreat", sum := "04ab495f8f1a081e31a2f7809b9967ff348019170aec63f2c3e38f916dc495bb", func := "anchorhold/anchorholdlaw08.ConfBack", spec := "confBack", unfollowed := true, recurses := true, apart := false }
def ConfBackSaid : Prop := confBackRow.holds Tryz.pinned (OpenSpec.ofChange confBackSpec)

/-- ITS FALSE NEIGHBOUR: 'it returns false'. Refute it at one input. -/
def confBackWrong : ChangeSpec := { name := "confBack", fn := fun _ => fun
  | [d1, d2] => { results := [.lit (.bool false)], args := [d1, d2] }
  | _ => none }
def ConfBackWrongFalsely : Prop := confBackRow.holds Tryz.pinned (OpenSpec.ofChange confBackWrong)

/-- 'anchorholdlaw08.ConfSame': WHATEVER THE INPUT: true; the input reads as it did. -/
def confSameSpec : ChangeSpec := { name := "confSame", fn := fun _ => fun
  | [d1, d2] => { results := [.lit (.bool true)], args := [d1, d2] }
  | _ => none }
def confSameRow : OpenClaim := { program := "ytahjnonkhbpnpaagreat", sum := "04ab495f8f1a081e31a2f7809b9967ff348019170aec63f2c3e38f916dc495bb", func := "anchorhold/anchorholdlaw08.ConfSame", spec := "confSame", unfollowed := true, recurses := true, apart := false }
def ConfSameSaid : Prop := confSameRow.holds Tryz.pinned (OpenSpec.ofChange confSameSpec)

/-- ITS FALSE NEIGHBOUR: 'it returns false'. Refute it at one input. -/
def confSameWrong : ChangeSpec := { name := "confSame", fn := fun _ => fun
  | [d1, d2] => { results := [.lit (.bool false)], args := [d1, d2] }
  | _ => none }
def ConfSameWrongFalsely : Prop := confSameRow.holds Tryz.pinned (OpenSpec.ofChange confSameWrong)

/- THE SECOND FORM. 'bulk': how many values and letters a reading holds, each counted each time it is reached (what is shared counts as often as it is met; a slice's spare places count too). A statement '..UptoSaid' is the law's where the arguments, and the package variables that the reading takes, are together of bulk at most 1048576: NARROWER than '..Said'. Prove '..Said' where nothing that the law and all that it calls make is longer than what came in: it says more and counts as full. Else prove '..UptoSaid'. A law counts once. -/
mutual
def uptoBulk {H : Type} : DataW H → Nat
  | .lit (.string bytes) => bytes.length + 1
  | .lit _ => 1
  | .nil => 1
  | .ptr d => uptoBulk d + 1
  | .slice elems spare => uptoBulkAll elems + uptoBulkAll spare + 1
  | .agg parts => uptoBulkAll parts + 1
  | .iface _ d => uptoBulk d + 1
  | .map entries => uptoBulkEntries entries + 1
  | .held _ => 1
def uptoBulkAll {H : Type} : List (DataW H) → Nat
  | [] => 0
  | d :: r => uptoBulk d + uptoBulkAll r
def uptoBulkEntries {H : Type} : List (Lit × DataW H) → Nat
  | [] => 0
  | x :: r => uptoBulkEntry x + uptoBulkEntries r
def uptoBulkEntry {H : Type} : Lit × DataW H → Nat
  | (.string bytes, d) => bytes.length + uptoBulk d + 1
  | (_, d) => uptoBulk d + 1
 end
def uptoSmall : (H : Type) → List (DataW H) → Bool := fun _ ds => decide (uptoBulkAll ds ≤ 1048576)
def OpenSpec.upto (s : _root_.Go.ChangeSpec) : _root_.Go.OpenSpec := { _root_.Go.OpenSpec.ofChange s with cond := some uptoSmall }

/-- 'anchorholdlaw08.ConfWrites', WHERE WHAT IT READS IS OF BULK AT MOST 1048576: true; the input reads as it did. -/
def confWritesUptoRow : OpenClaim := { program := "ytahjnonkhbpnpaagreat", sum := "04ab495f8f1a081e31a2f7809b9967ff348019170aec63f2c3e38f916dc495bb", func := "anchorhold/anchorholdlaw08.ConfWrites", spec := "confWrites", unfollowed := true, recurses := true, apart := false, narrowed := true }
def ConfWritesUptoSaid : Prop := confWritesUptoRow.holds Tryz.pinned (OpenSpec.upto confWritesSpec)

/-- 'anchorholdlaw08.ConfReads', WHERE WHAT IT READS IS OF BULK AT MOST 1048576: true; the input reads as it did. -/
def confReadsUptoRow : OpenClaim := { program := "ytahjnonkhbpnpaagreat", sum := "04ab495f8f1a081e31a2f7809b9967ff348019170aec63f2c3e38f916dc495bb", func := "anchorhold/anchorholdlaw08.ConfReads", spec := "confReads", unfollowed := true, recurses := true, apart := false, narrowed := true }
def ConfReadsUptoSaid : Prop := confReadsUptoRow.holds Tryz.pinned (OpenSpec.upto confReadsSpec)

/-- 'anchorholdlaw08.ConfBack', WHERE WHAT IT READS IS OF BULK AT MOST 1048576: true; the input reads as it did. -/
def confBackUptoRow : OpenClaim := { program := "ytahjnonkhbpnpaagreat", sum := "04ab495f8f1a081e31a2f7809b9967ff348019170aec63f2c3e38f916dc495bb", func := "anchorhold/anchorholdlaw08.ConfBack", spec := "confBack", unfollowed := true, recurses := true, apart := false, narrowed := true }
def ConfBackUptoSaid : Prop := confBackUptoRow.holds Tryz.pinned (OpenSpec.upto confBackSpec)

/-- 'anchorholdlaw08.ConfSame', WHERE WHAT IT READS IS OF BULK AT MOST 1048576: true; the input reads as it did. -/
def confSameUptoRow : OpenClaim := { program := "ytahjnonkhbpnpaagreat", sum := "04ab495f8f1a081e31a2f7809b9967ff348019170aec63f2c3e38f916dc495bb", func := "anchorhold/anchorholdlaw08.ConfSame", spec := "confSame", unfollowed := true, recurses := true, apart := false, narrowed := true }
def ConfSameUptoSaid : Prop := confSameUptoRow.holds Tryz.pinned (OpenSpec.upto confSameSpec)

end Rows
end Go.Proofs.YtahjnonkhbpnpaaGreat
