/- DigestSums: whatever the bytes (of at most 2000), events (of at most 300; else nothing but the small check is asked) and number of partitions, sums are the document's, all together and by partitions, and so are an event's bytes. No condition. -/
import Derived.Test.YtjjmnkhlcgjfmaaDigestSums
import Derived.Test.YtjjmnkhlcgjfmaaEvArgs
namespace Go.Proofs.Ytjjmnkhlcgjfmaa
open Go.ChangeShapes Go.WideShapes Go.ChangeAt Go.RowKit Go.Joins

set_option maxRecDepth 100000 in
theorem digestSums_lifted (os : Os) (started : os.Started) (H : Type) (enc : TypeId × Value → H) :
    ReturnsInHanded {} Try.checked os 7 .any (Rows.digestSumsSpec.pre6 enc Try.prog Try.f7 Rows.digestSumsRow.domain false) (Rows.digestSumsSpec.post enc Try.prog Try.f7 false true false false) := by
  refine law_lifted 7 Try.f7 Rows.digestSumsSpec os started H enc rfl Try.func7 (by kernel_rfl) (by kernel_rfl) (by kernel_rfl) (by kernel_rfl)
    (fun ds hl => by
      have hl' : ds.length = 3 := hl.trans (by kernel_rfl)
      match ds, hl' with
      | [d1, d2, d3], _ => rfl)
    (ChangeSpec.witness6 (enc := enc) (C := Try.checked) false ⟨#[], #[.slice none 0 0, .slice none 0 0, .int .i64 0], []⟩ 8 (by kernel_rfl) (by kernel_rfl) (by kernel_rfl) (by kernel_rfl)) ?_
  intro W base args ds ps hval hA
  rw [Try.params7] at hA hval
  obtain ⟨v0, vs0, d0, ds0, p0, q0, hargs, rfl, rfl, h0, r0⟩ := trodAll_cons hA
  obtain ⟨v1, vs1, d1, ds1, p1, q1, rfl, rfl, rfl, h1, r1⟩ := trodAll_cons r0
  obtain ⟨v2, vs2, d2, ds2, p2, q2, rfl, rfl, rfl, h2, r2⟩ := trodAll_cons r1
  obtain ⟨rfl, rfl, rfl⟩ := trodAll_nil r2
  obtain rfl : args = #[v0, v1, v2] := by cases args; simp_all
  obtain ⟨B, m, d, bs, rfl, hbs⟩ := arg_SlB (e := 5) (by kernel_rfl) (by kernel_rfl) (by kernel_rfl) (hval 0 _ v0 rfl rfl) h0
  obtain ⟨A, n, c, l, rfl, hl⟩ := arg_SlE (hval 1 _ v1 rfl rfl) h1
  obtain ⟨x, rfl, hx⟩ := arg_int u_int (hval 2 _ v2 rfl rfl) h2
  exact digestSums_law hbs hl x hx

theorem digestSums_holds : Rows.DigestSumsSaid :=
  OpenClaim.holds_of_wide 7 Try.f7 rfl rfl rfl rfl rfl rfl rfl ⟨rfl, rfl, rfl, rfl, rfl⟩ rfl rfl rfl rfl rfl (by kernel_rfl) Try.func7 (by kernel_rfl)
    (of_decide_eq_true (by kernel_rfl)) (by unfold Func.isWrapper; first | (rw [if_pos (by decide +kernel)]; kernel_rfl) | (rw [if_neg (by decide +kernel)]; exact ⟨rfl, rfl⟩))
    (fun os started H enc _ => digestSums_lifted os started H enc)
#print axioms digestSums_holds
end Go.Proofs.Ytjjmnkhlcgjfmaa
