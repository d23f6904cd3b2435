/- DigestChains: whatever the events (of at most 300; else nothing but the small check is asked) and cuts, a chain's sum and length do not hang on how events come together; a chain that is not there has nothing. No condition. -/
import Derived.Test.YtjjmnkhlcgjfmaaDigestChains
import Derived.Test.YtjjmnkhlcgjfmaaEvArgs
namespace Go.Proofs.Ytjjmnkhlcgjfmaa
open Go.ChangeShapes Go.WideShapes Go.ChangeAt Go.RowKit Go.Joins

set_option maxRecDepth 100000 in
theorem digestChains_lifted (os : Os) (started : os.Started) (H : Type) (enc : TypeId × Value → H) :
    ReturnsInHanded {} Try.checked os 6 .any (Rows.digestChainsSpec.pre6 enc Try.prog Try.f6 Rows.digestChainsRow.domain false) (Rows.digestChainsSpec.post enc Try.prog Try.f6 false true false false) := by
  refine law_lifted 6 Try.f6 Rows.digestChainsSpec os started H enc rfl Try.func6 (by kernel_rfl) (by kernel_rfl) (by kernel_rfl) (by kernel_rfl)
    (fun ds hl => by
      have hl' : ds.length = 2 := hl.trans (by kernel_rfl)
      match ds, hl' with
      | [d1, d2], _ => rfl)
    (ChangeSpec.witness6 (enc := enc) (C := Try.checked) false ⟨#[], #[.slice none 0 0, .slice none 0 0], []⟩ 8 (by kernel_rfl) (by kernel_rfl) (by kernel_rfl) (by kernel_rfl)) ?_
  intro W base args ds ps hval hA
  rw [Try.params6] at hA hval
  obtain ⟨v0, vs0, d0, ds0, p0, q0, hargs, rfl, rfl, h0, r0⟩ := trodAll_cons hA
  obtain ⟨v1, vs1, d1, ds1, p1, q1, rfl, rfl, rfl, h1, r1⟩ := trodAll_cons r0
  obtain ⟨rfl, rfl, rfl⟩ := trodAll_nil r1
  obtain rfl : args = #[v0, v1] := by cases args; simp_all
  obtain ⟨A, n, c, l, rfl, hl⟩ := arg_SlE (hval 0 _ v0 rfl rfl) h0
  obtain ⟨B, m, d, cu, rfl, hcu⟩ := arg_SlB (e := 5) (by kernel_rfl) (by kernel_rfl) (by kernel_rfl) (hval 1 _ v1 rfl rfl) h1
  exact digestChains_law hl hcu

theorem digestChains_holds : Rows.DigestChainsSaid :=
  OpenClaim.holds_of_wide 6 Try.f6 rfl rfl rfl rfl rfl rfl rfl ⟨rfl, rfl, rfl, rfl, rfl⟩ rfl rfl rfl rfl rfl (by kernel_rfl) Try.func6 (by kernel_rfl)
    (of_decide_eq_true (by kernel_rfl)) (by unfold Func.isWrapper; first | (rw [if_pos (by decide +kernel)]; kernel_rfl) | (rw [if_neg (by decide +kernel)]; exact ⟨rfl, rfl⟩))
    (fun os started H enc _ => digestChains_lifted os started H enc)
#print axioms digestChains_holds
end Go.Proofs.Ytjjmnkhlcgjfmaa
