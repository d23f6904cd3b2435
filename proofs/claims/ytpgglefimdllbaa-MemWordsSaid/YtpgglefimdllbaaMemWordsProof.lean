/- MemWords: whatever the number, the base and the place, a number that is put is got back modulo 2^32 where bytes may be written, else nothing. No condition. -/
import Derived.Test.YtpgglefimdllbaaMemWords
import Derived.Test.YtpgglefimdllbaaChecked
namespace Go.Proofs.Ytpgglefimdllbaa
open Go.ChangeShapes Go.WideShapes Go.ChangeAt Go.RowKit Go.Joins

set_option maxRecDepth 100000 in
theorem memWords_lifted (os : Os) (started : os.Started) (H : Type) (enc : TypeId × Value → H) :
    ReturnsInHanded {} Try.checked os 3 .any (Rows.memWordsSpec.pre6 enc Try.prog Try.f3 Rows.memWordsRow.domain false) (Rows.memWordsSpec.post enc Try.prog Try.f3 false true false false) := by
  refine law_lifted 3 Try.f3 Rows.memWordsSpec os started H enc rfl Try.func3 (by kernel_rfl) (by kernel_rfl) (by kernel_rfl) (by kernel_rfl)
    (fun ds hl => by
      have hl' : ds.length = 3 := hl.trans (by kernel_rfl)
      match ds, hl' with
      | [d1, d2, d3], _ => rfl)
    (ChangeSpec.witness6 (enc := enc) (C := Try.checked) false ⟨#[], #[.int .u16 0, .int .u8 0, .int .i64 0], []⟩ 8 (by kernel_rfl) (by kernel_rfl) (by kernel_rfl) (by kernel_rfl)) ?_
  intro W base args ds ps hval hA
  rw [Try.params3] at hA hval
  obtain ⟨v0, vs0, d0, ds0, p0, q0, hargs, rfl, rfl, h0, r0⟩ := trodAll_cons hA
  obtain ⟨v1, vs1, d1, ds1, p1, q1, rfl, rfl, rfl, h1, r1⟩ := trodAll_cons r0
  obtain ⟨v2, vs2, d2, ds2, p2, q2, rfl, rfl, rfl, h2, r2⟩ := trodAll_cons r1
  obtain ⟨rfl, rfl, rfl⟩ := trodAll_nil r2
  obtain rfl : args = #[v0, v1, v2] := by cases args; simp_all
  obtain ⟨b, rfl, hb⟩ := arg_u16 (hval 0 _ v0 rfl rfl) h0 (by kernel_rfl)
  obtain ⟨a, rfl, ha⟩ := arg_u8 (hval 1 _ v1 rfl rfl) h1 (by kernel_rfl)
  obtain ⟨n, rfl, hn⟩ := arg_int (by kernel_rfl) (hval 2 _ v2 rfl rfl) h2
  exact memWords_law b hb a ha n hn

theorem memWords_holds : Rows.MemWordsSaid :=
  OpenClaim.holds_of_wide 3 Try.f3 rfl rfl rfl rfl rfl rfl rfl ⟨rfl, rfl, rfl, rfl, rfl⟩ rfl rfl rfl rfl rfl (by kernel_rfl) Try.func3 (by kernel_rfl)
    (of_decide_eq_true (by kernel_rfl)) (by unfold Func.isWrapper; first | (rw [if_pos (by decide +kernel)]; kernel_rfl) | (rw [if_neg (by decide +kernel)]; exact ⟨rfl, rfl⟩))
    (fun os started H enc _ => memWords_lifted os started H enc)
#print axioms memWords_holds
end Go.Proofs.Ytpgglefimdllbaa
