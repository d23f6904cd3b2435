/- DigestHex: whatever the number and the digits (of at most 100 bytes; else nothing but the small check is asked), a number's digits and digits' number are the document's, and come back. No condition. -/
import Derived.Test.YtjjmnkhlcgjfmaaDigestHex
import Derived.Test.YtjjmnkhlcgjfmaaArgs2
namespace Go.Proofs.Ytjjmnkhlcgjfmaa
open Go.ChangeShapes Go.WideShapes Go.ChangeAt Go.RowKit Go.Joins

set_option maxRecDepth 100000 in
theorem digestHex_lifted (os : Os) (started : os.Started) (H : Type) (enc : TypeId × Value → H) :
    ReturnsInHanded {} Try.checked os 3 .any (Rows.digestHexSpec.pre6 enc Try.prog Try.f3 Rows.digestHexRow.domain false) (Rows.digestHexSpec.post enc Try.prog Try.f3 false true false false) := by
  refine law_lifted 3 Try.f3 Rows.digestHexSpec os started H enc rfl Try.func3 (by kernel_rfl) (by kernel_rfl) (by kernel_rfl) (by kernel_rfl)
    (fun ds hl => by
      have hl' : ds.length = 2 := hl.trans (by kernel_rfl)
      match ds, hl' with
      | [d1, d2], _ => rfl)
    (ChangeSpec.witness6 (enc := enc) (C := Try.checked) false ⟨#[], #[.int .u32 0, .string ⟨#[]⟩], []⟩ 8 (by kernel_rfl) (by kernel_rfl) (by kernel_rfl) (by kernel_rfl)) ?_
  intro W base args ds ps hval hA
  rw [Try.params3] at hA hval
  obtain ⟨v0, vs0, d0, ds0, p0, q0, hargs, rfl, rfl, h0, r0⟩ := trodAll_cons hA
  obtain ⟨v1, vs1, d1, ds1, p1, q1, rfl, rfl, rfl, h1, r1⟩ := trodAll_cons r0
  obtain ⟨rfl, rfl, rfl⟩ := trodAll_nil r1
  obtain rfl : args = #[v0, v1] := by cases args; simp_all
  obtain ⟨x, rfl, hx⟩ := arg_u32 (hval 0 _ v0 rfl rfl) h0 (by kernel_rfl)
  obtain ⟨s, rfl, hs⟩ := arg_str (hval 1 _ v1 rfl rfl) h1 (by kernel_rfl)
  exact digestHex_law x hx s

theorem digestHex_holds : Rows.DigestHexSaid :=
  OpenClaim.holds_of_wide 3 Try.f3 rfl rfl rfl rfl rfl rfl rfl ⟨rfl, rfl, rfl, rfl, rfl⟩ rfl rfl rfl rfl rfl (by kernel_rfl) Try.func3 (by kernel_rfl)
    (of_decide_eq_true (by kernel_rfl)) (by unfold Func.isWrapper; first | (rw [if_pos (by decide +kernel)]; kernel_rfl) | (rw [if_neg (by decide +kernel)]; exact ⟨rfl, rfl⟩))
    (fun os started H enc _ => digestHex_lifted os started H enc)
#print axioms digestHex_holds
end Go.Proofs.Ytjjmnkhlcgjfmaa
