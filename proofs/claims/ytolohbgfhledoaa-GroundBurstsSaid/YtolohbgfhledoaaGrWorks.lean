/- The walks of package ground's laws: the small check. -/
import Derived.Test.YtolohbgfhledoaaGrHears
namespace Go.Proofs.Ytolohbgfhledoaa
open Go.RowKit
theorem own_fm (w : World) : (w.alloc (.cells #[.int .i64 0, .int .i64 0, .int .i64 0, .int .i64 0] 78)).ownsRow w.heap.size 78 4 (.slice (some ⟨w.heap.size, 0, none⟩) 1 1) 1 ([fm0].flatMap fmC) :=
  ⟨by simp [fmC], .inr ⟨w.heap.size, 1, #[.int .i64 0, .int .i64 0, .int .i64 0, .int .i64 0], rfl, Nat.le_refl _, heap_alloc_new w _, Nat.le_refl _, by unfold maxLen; omega, by simp, by simp [fmC, fm0]⟩⟩
def pw : Pk := ⟨0, 0, 0, 3⟩
theorem pw_ok : pw.ok := by unfold pw Pk.ok i64; decide
theorem pw_may : mayP pw = true := by decide
theorem pw_pack : packR pw = (packB pw, 0) := by unfold packR; rw [if_pos pw_may]
theorem pw_len : (packB pw).length = 9 := by rw [packB_len]; unfold plB; decide
theorem pw_take : takeP (packB pw) = (pw, 9, 0) := by
  have := takeP_packB pw_ok pw_may []
  rw [List.append_nil, pw_len] at this
  exact this
theorem pw_h1 : hearR [fm0] [fm0] 0 pw = (0, setM [fm0] 0 3, 1) := by
  unfold hearR
  rw [pw_may]
  decide
theorem pw_h2 (F : List Fm) : hearR [fm0] F 1 pw = (14, F, 1) := by
  unfold hearR
  rw [pw_may, if_neg (by decide), if_pos (by decide)]
theorem run_mk1 (w : World) : (Instr.makeSlice 47 (.int .i64 1) (.int .i64 1)).run Try.prog w = .ok (.slice (some ⟨w.heap.size, 0, none⟩) 1 1) (w.alloc (.cells #[.int .i64 0, .int .i64 0, .int .i64 0, .int .i64 0] 78)) := by kernel_rfl
set_option maxRecDepth 100000 in
theorem works_any (w : World) : Calls Try.prog 8 #[] w fun e w' => e = .returned (.bool true) ∧ Below w.heap.size w w' := by
  have hv : pw.val = .agg #[.int .i64 0, .int .i64 0, .int .i64 0, .int .i64 3] := rfl
  have HV := Lib.hid hv
  clear hv
  have b0 := Blk.new w 29 #[.int .i64 0, .int .i64 0, .int .i64 0, .int .i64 3]
  have hb0 := (Below.refl w.heap.size w).alloc (Nat.le_refl _) (.cells #[.int .i64 0, .int .i64 0, .int .i64 0, .int .i64 3] 29)
  go_enter Try.func8, Try.ntmps8
  go_wp2_with fail
  generalize w.alloc (.cells #[.int .i64 0, .int .i64 0, .int .i64 0, .int .i64 3] 29) = w0 at b0 hb0 ⊢
  refine (pack_any (p := pw) pw_ok).mono ?_
  rintro e w2 ⟨v2, he, hown2, hb2⟩
  rw [pw_pack] at he hown2
  replace he : e = .returned (.tuple #[v2, .int .i64 0]) := he
  subst he
  simp only at hown2
  rw [pw_len] at hown2
  obtain ⟨A2, k2, rfl, hs2, -⟩ := SlB.of_own hown2
  have b2 := b0.keep hb2
  have hB2 := hb0.trans (hb2.mono hb0.size)
  clear b0 hb0 hown2
  go_wp2_with fail
  refine (take_any' hs2 (by omega)).mono ?_
  rintro e w3 ⟨he, hb3⟩
  rw [pw_take] at he
  replace he : e = .returned (.tuple #[.agg #[.int .i64 0, .int .i64 0, .int .i64 0, .int .i64 3], .int .i64 9, .int .i64 0]) := he
  subst he
  have b3 := b2.keep hb3
  have hB3 := hB2.trans (hb3.mono hB2.size)
  have hwl : w.heap.size < w3.heap.size := b3.lt
  have hz := (Below.refl w3.heap.size w3).alloc (Nat.le_refl _) (.cells #[.int .i64 0, .int .i64 0, .int .i64 0, .int .i64 3] 29)
  have b3' := b3.keep hz
  have n3 := Blk.new w3 29 #[.int .i64 0, .int .i64 0, .int .i64 0, .int .i64 3]
  have hB4 := hB3.trans (hz.mono hB3.size)
  have hown4 := own_fm (w3.alloc (.cells #[.int .i64 0, .int .i64 0, .int .i64 0, .int .i64 3] 29))
  have hz4 := (Below.refl (w3.alloc (.cells #[.int .i64 0, .int .i64 0, .int .i64 0, .int .i64 3] 29)).heap.size (w3.alloc (.cells #[.int .i64 0, .int .i64 0, .int .i64 0, .int .i64 3] 29))).alloc (Nat.le_refl _) (.cells #[.int .i64 0, .int .i64 0, .int .i64 0, .int .i64 0] 78)
  have hmk := run_mk1
  go_wp2_with fail
  have hB5 := hB4.trans (hz4.mono hB4.size)
  have b5 := b3'.keep hz4
  have n5 := n3.keep hz4
  have hsz : (w3.alloc (.cells #[.int .i64 0, .int .i64 0, .int .i64 0, .int .i64 3] 29)).heap.size = w3.heap.size + 1 := by unfold World.alloc; exact Array.size_push _
  rw [hsz] at hown4
  clear hz hz4 hB4 b3' n3 hmk hsz b2 b3 hs2 hB2 hB3
  generalize (w3.alloc (.cells #[.int .i64 0, .int .i64 0, .int .i64 0, .int .i64 3] 29)).alloc (.cells #[.int .i64 0, .int .i64 0, .int .i64 0, .int .i64 0] 78) = w5 at hB5 b5 n5 hown4 ⊢
  obtain ⟨A5, k5, hA, hs5, -⟩ := SlG.of_own hown4 (fun _ _ => rfl) rfl
  injection hA with h1 _ h2
  subst h1
  subst h2
  clear hown4
  refine (newS_any hs5 (by omega)).mono ?_
  rintro e w6 ⟨g, B, rfl, hst, hBB, hb6⟩
  rw [show [fm0].take 64 = [fm0] from rfl] at hst
  have hB6 := hB5.trans (hb6.mono hB5.size)
  have b6 := b5.keep hb6
  have n6 := n5.keep hb6
  have hl5 := n5.lt
  have hl6 := n6.lt
  clear b5 n5 hb6 hs5 hB5
  generalize w3.heap.size = p3 at hwl n6 hl5 hl6 ⊢
  have hBg : B ≤ g := by obtain ⟨_, _, _, _, _, _, _, h5, _⟩ := hst; exact h5
  have c0 : w6.cell? ⟨w.heap.size, 0, none⟩ = some (.int .i64 0) := b6.cell 0
  have c1 : w6.cell? ⟨w.heap.size, 1, none⟩ = some (.int .i64 0) := b6.cell 1
  have c2 : w6.cell? ⟨w.heap.size, 2, none⟩ = some (.int .i64 0) := b6.cell 2
  have c3 : w6.cell? ⟨w.heap.size, 3, none⟩ = some (.int .i64 3) := b6.cell 3
  have d0 : w6.cell? ⟨p3, 0, none⟩ = some (.int .i64 0) := n6.cell 0
  have d1 : w6.cell? ⟨p3, 1, none⟩ = some (.int .i64 0) := n6.cell 1
  have d2 : w6.cell? ⟨p3, 2, none⟩ = some (.int .i64 0) := n6.cell 2
  have d3 : w6.cell? ⟨p3, 3, none⟩ = some (.int .i64 3) := n6.cell 3
  go_wp2_with fail
  refine (hear_any (p := pw) hst).mono ?_
  rintro e w7 ⟨he, hst7, hf7, -⟩
  rw [pw_h1] at he hst7
  replace he : e = .returned (.int .i64 0) := he
  subst he
  simp only at hst7
  have b7 := b6.fr hf7 (by omega)
  have hB7 := hB6.trans (hf7.below (fun k hk h => by omega) hB6.size)
  have e0 : w7.cell? ⟨w.heap.size, 0, none⟩ = some (.int .i64 0) := b7.cell 0
  have e1 : w7.cell? ⟨w.heap.size, 1, none⟩ = some (.int .i64 0) := b7.cell 1
  have e2 : w7.cell? ⟨w.heap.size, 2, none⟩ = some (.int .i64 0) := b7.cell 2
  have e3 : w7.cell? ⟨w.heap.size, 3, none⟩ = some (.int .i64 3) := b7.cell 3
  go_wp2_with fail
  refine (hear_any (p := pw) hst7).mono ?_
  rintro e w8 ⟨he, hst8, hf8, -⟩
  rw [pw_h2] at he hst8
  replace he : e = .returned (.int .i64 14) := he
  subst he
  simp only at hst8
  have hB8 := hB7.trans (hf8.below (fun k hk h => by omega) hB7.size)
  go_wp2_with fail
  refine (next_st hst8).mono ?_
  rintro e w9 ⟨rfl, rfl⟩
  go_wp2_with fail
  go_ret
  exact ⟨rfl, hB8⟩
end Go.Proofs.Ytolohbgfhledoaa
