/- The small check of the laws on calendar. -/
import Derived.Test.YtiglabknaldinaaCalBounds
namespace Go.Proofs.Ytiglabknaldinaa
open Go.RowKit
/-- its configuration: one mode of 1000, with a window of partition 2. -/
def wkC (g : Nat) : Cf := ⟨⟨none, 0, []⟩, ⟨none, 0, []⟩, ⟨some ⟨g + 1, 0, none⟩, 1, [⟨1000, ⟨some ⟨g, 0, none⟩, 1, [⟨2, 10, 20⟩]⟩⟩]⟩, Pw0, Sd0⟩
theorem hd_nil {P : Program} {α : Type} {e : TypeId} (r : Rd P e α) (w : World) : Hd.ok r w ⟨none, 0, []⟩ := ⟨SlG.nil w _ _, fun x h => by cases h⟩
theorem hd_blk {P : Program} {α : Type} {e : TypeId} (r : Rd P e α) {w : World} {g : Nat} {t : TypeId} {cs : Array Value} {l : List α} (h : Blk w g t cs) (hcs : cs.toList = l.flatMap r.f) (hl : l.length ≤ 1000) (hok : ∀ x ∈ l, r.ok w x) : Hd.ok r w ⟨some ⟨g, 0, none⟩, l.length, l⟩ :=
  ⟨⟨⟨flat_len l (fun x _ => r.len x), Nat.le_refl _, (by unfold maxLen; simp only; omega), (fun e => by cases e), fun _ => ⟨g, 0, rfl, h.lt, fun j u hu => by rw [Nat.zero_add, h.cell j, ← hu, ← hcs]; simp⟩⟩, rfl, fun x _ => r.len x⟩, hok⟩
theorem wkC_ok {w : World} {g : Nat} (h0 : Blk w g 55 #[.int .i64 2, .int .i64 10, .int .i64 20]) (h1 : Blk w (g + 1) 49 #[.int .i64 1000, .slice (some ⟨g, 0, none⟩) 1 1]) : (wkC g).ok w := by
  have z0 : i64 0 := by unfold i64; omega
  have z2 : i64 2 := by unfold i64; omega
  have z10 : i64 10 := by unfold i64; omega
  have z20 : i64 20 := by unfold i64; omega
  have z1000 : i64 1000 := by unfold i64; omega
  refine ⟨hd_nil _ _, hd_nil _ _, ?_, ⟨hd_nil _ _, hd_nil _ _, z0, z0, z0, z0, z0, z0⟩, SlI.nil w, SlI.nil w⟩
  refine hd_blk rdMd (l := [⟨1000, ⟨some ⟨g, 0, none⟩, 1, [⟨2, 10, 20⟩]⟩⟩]) h1 rfl (show 1 ≤ 1000 by omega) (fun m hm => ?_)
  obtain rfl := List.mem_singleton.1 hm
  refine ⟨z1000, hd_blk rdWn (l := [⟨2, 10, 20⟩]) h0 rfl (by decide) (fun n hn => ?_)⟩
  obtain rfl := List.mem_singleton.1 hn
  exact ⟨z2, z10, z20⟩
theorem wk_pages (g : Nat) : pagesS (wkC g) Pg0 [Fm0, Fm0, Fm0] = [⟨0, 1000, 0, 0⟩, ⟨1000, 2000, 0, 0⟩, ⟨2000, 3000, 0, 0⟩] := by rfl
theorem wk_pages1 (g : Nat) : pagesS (wkC g) Pg0 [Fm0] = [⟨0, 1000, 0, 0⟩] := by rfl
theorem wk_bounds (g : Nat) : bdS (allS (wkC g) (pagesS (wkC g) Pg0 [Fm0])) = [⟨10, 10, 2⟩, ⟨30, 30, -1⟩] := by
  rw [wk_pages1]
  show bdS [slotS 0 ⟨2, 10, 20⟩] = _
  unfold slotS
  rw [show wrap64 (0 + 10) = 10 by unfold wrap64; rfl, show wrap64 (10 + 20) = 30 by unfold wrap64; rfl]
  rfl
def z12 : Array Value := #[.int .i64 0, .int .i64 0, .int .i64 0, .int .i64 0, .int .i64 0, .int .i64 0, .int .i64 0, .int .i64 0, .int .i64 0, .int .i64 0, .int .i64 0, .int .i64 0]
theorem run_mk3 (w : World) : (Instr.makeSlice 34 (.int .i64 3) (.int .i64 3)).run Try.prog w = .ok (.slice (some ⟨w.heap.size, 0, none⟩) 3 3) (w.alloc (.cells z12 76)) := by kernel_rfl
theorem run_mk1 (w : World) : (Instr.makeSlice 34 (.int .i64 1) (.int .i64 1)).run Try.prog w = .ok (.slice (some ⟨w.heap.size, 0, none⟩) 1 1) (w.alloc (.cells #[.int .i64 0, .int .i64 0, .int .i64 0, .int .i64 0] 76)) := by kernel_rfl
theorem fm0_ok (w : World) : Fm0.ok w := by
  have : i64 0 := by unfold i64; omega
  exact ⟨this, this, this, this⟩
set_option maxRecDepth 100000 in
set_option maxHeartbeats 3200000 in
theorem works_any (w : World) : Calls Try.prog 8 #[] w fun e w' => e = .returned (.bool true) ∧ Below w.heap.size w w' := by
  have hb := (((Below.refl w.heap.size w).alloc (Nat.le_refl _) (.cells #[.int .i64 2, .int .i64 10, .int .i64 20] 55)).alloc (by simp) (.cells #[.int .i64 1000, .slice (some ⟨w.heap.size, 0, none⟩) 1 1] 49)).alloc (by simp; omega) (.cells #[.slice none 0 0, .slice none 0 0, .slice (some ⟨w.heap.size + 1, 0, none⟩) 1 1, .slice none 0 0, .slice none 0 0, .int .i64 0, .int .i64 0, .int .i64 0, .int .i64 0, .int .i64 0, .int .i64 0, .slice none 0 0, .slice none 0 0] 33)
  have k0 := ((Blk.new w 55 #[.int .i64 2, .int .i64 10, .int .i64 20]).alloc (.cells #[.int .i64 1000, .slice (some ⟨w.heap.size, 0, none⟩) 1 1] 49)).alloc (.cells #[.slice none 0 0, .slice none 0 0, .slice (some ⟨w.heap.size + 1, 0, none⟩) 1 1, .slice none 0 0, .slice none 0 0, .int .i64 0, .int .i64 0, .int .i64 0, .int .i64 0, .int .i64 0, .int .i64 0, .slice none 0 0, .slice none 0 0] 33)
  have k1 := (Blk.new (w.alloc (.cells #[.int .i64 2, .int .i64 10, .int .i64 20] 55)) 49 #[.int .i64 1000, .slice (some ⟨w.heap.size, 0, none⟩) 1 1]).alloc (.cells #[.slice none 0 0, .slice none 0 0, .slice (some ⟨w.heap.size + 1, 0, none⟩) 1 1, .slice none 0 0, .slice none 0 0, .int .i64 0, .int .i64 0, .int .i64 0, .int .i64 0, .int .i64 0, .int .i64 0, .slice none 0 0, .slice none 0 0] 33)
  have k2 := Blk.new ((w.alloc (.cells #[.int .i64 2, .int .i64 10, .int .i64 20] 55)).alloc (.cells #[.int .i64 1000, .slice (some ⟨w.heap.size, 0, none⟩) 1 1] 49)) 33 #[.slice none 0 0, .slice none 0 0, .slice (some ⟨w.heap.size + 1, 0, none⟩) 1 1, .slice none 0 0, .slice none 0 0, .int .i64 0, .int .i64 0, .int .i64 0, .int .i64 0, .int .i64 0, .int .i64 0, .slice none 0 0, .slice none 0 0]
  go_enter Try.func8, Try.ntmps8
  go_upto_region 2 with fail
  generalize ((w.alloc (.cells #[.int .i64 2, .int .i64 10, .int .i64 20] 55)).alloc (.cells #[.int .i64 1000, .slice (some ⟨w.heap.size, 0, none⟩) 1 1] 49)).alloc (.cells #[.slice none 0 0, .slice none 0 0, .slice (some ⟨w.heap.size + 1, 0, none⟩) 1 1, .slice none 0 0, .slice none 0 0, .int .i64 0, .int .i64 0, .int .i64 0, .int .i64 0, .int .i64 0, .int .i64 0, .slice none 0 0, .slice none 0 0] 33) = w1 at hb k0 k1 k2 ⊢
  simp only [World.size_alloc] at k1 k2
  have hx := wkC_ok k0 k1
  have c0 : w1.cell? ⟨w.heap.size + 1 + 1, 0, none⟩ = some (.slice none 0 0) := k2.cell 0
  have c1 : w1.cell? ⟨w.heap.size + 1 + 1, 1, none⟩ = some (.slice none 0 0) := k2.cell 1
  have c2 : w1.cell? ⟨w.heap.size + 1 + 1, 2, none⟩ = some (.slice (some ⟨w.heap.size + 1, 0, none⟩) 1 1) := k2.cell 2
  have c3 : w1.cell? ⟨w.heap.size + 1 + 1, 3, none⟩ = some (.slice none 0 0) := k2.cell 3
  have c4 : w1.cell? ⟨w.heap.size + 1 + 1, 4, none⟩ = some (.slice none 0 0) := k2.cell 4
  have c5 : w1.cell? ⟨w.heap.size + 1 + 1, 5, none⟩ = some (.int .i64 0) := k2.cell 5
  have c6 : w1.cell? ⟨w.heap.size + 1 + 1, 6, none⟩ = some (.int .i64 0) := k2.cell 6
  have c7 : w1.cell? ⟨w.heap.size + 1 + 1, 7, none⟩ = some (.int .i64 0) := k2.cell 7
  have c8 : w1.cell? ⟨w.heap.size + 1 + 1, 8, none⟩ = some (.int .i64 0) := k2.cell 8
  have c9 : w1.cell? ⟨w.heap.size + 1 + 1, 9, none⟩ = some (.int .i64 0) := k2.cell 9
  have c10 : w1.cell? ⟨w.heap.size + 1 + 1, 10, none⟩ = some (.int .i64 0) := k2.cell 10
  have c11 : w1.cell? ⟨w.heap.size + 1 + 1, 11, none⟩ = some (.slice none 0 0) := k2.cell 11
  have c12 : w1.cell? ⟨w.heap.size + 1 + 1, 12, none⟩ = some (.slice none 0 0) := k2.cell 12
  have hl2 := k2.lt
  have hm3 := run_mk3
  have hm1 := run_mk1
  refine wp_region_fen (fun _ => False) [(1, 0), (0, 0)] (by kernel_rfl) (by kernel_rfl) ?_
  simp only [wpSegsF, List.take, List.drop]
  repeat (go_big_quiet_step (fail))
  refine wpQuiet_nil (wpHeadF_want rfl (fun K' hK' => ?_))
  go_wp2_with fail
  have hbm : Below w1.heap.size w1 ((w1.alloc (.cells z12 76)).drew) := ((Below.refl w1.heap.size w1).alloc (Nat.le_refl _) _).drew
  have km := (Blk.new w1 76 z12).drew
  refine hK' _ _ rfl (fr_graft (Fr.of_below hbm _)) ?_
  clear hK' K'
  generalize (w1.alloc (.cells z12 76)).drew = w2 at hbm km ⊢
  try simp only [wpSegsF, List.take, List.drop]
  repeat (go_big_quiet_step (fail))
  refine wpQuiet_nil (wpHeadF_want rfl (fun K' hK' => ?_))
  go_wp2_with fail
  have hL3 : rdFms.ok w2 ⟨some ⟨w1.heap.size, 0, none⟩, 3, [Fm0, Fm0, Fm0]⟩ := hd_blk rdFm (l := [Fm0, Fm0, Fm0]) km rfl (by decide) (fun f hf => by
    obtain rfl : f = Fm0 := by simpa using hf
    exact fm0_ok _)
  refine (Pages_any (w := w2) (rdCf.keep hx hbm) hL3 (show 3 ≤ 1000 by omega)).mono ?_
  rintro e w3 ⟨v, rfl, hown, hb3⟩
  obtain ⟨VA, vc, rfl, hV, -⟩ := SlG.of_own hown (fun _ _ => rfl) rfl
  rw [wk_pages] at hV ⊢
  have hB3 := hbm.trans (hb3.mono hbm.size)
  refine hK' _ _ rfl (fr_graft (Fr.of_below hB3 _)) ?_
  clear hK' K' hown hL3 km hb3 hbm hm3 c0 c1 c2 c3 c4 c5 c6 c7 c8 c9 c10 c11 c12
  try simp only [wpSegsF]
  repeat (go_big_quiet_step (fail))
  refine wpQuiet_nil ?_
  clear w2
  have k3 := k2.keep hB3
  have hx3 := rdCf.keep hx hB3
  have hBB := hb.trans (hB3.mono hb.size)
  clear k0 k1 k2 hx hb hB3 hl2
  have c0 : w3.cell? ⟨w.heap.size + 1 + 1, 0, none⟩ = some (.slice none 0 0) := k3.cell 0
  have c1 : w3.cell? ⟨w.heap.size + 1 + 1, 1, none⟩ = some (.slice none 0 0) := k3.cell 1
  have c2 : w3.cell? ⟨w.heap.size + 1 + 1, 2, none⟩ = some (.slice (some ⟨w.heap.size + 1, 0, none⟩) 1 1) := k3.cell 2
  have c3 : w3.cell? ⟨w.heap.size + 1 + 1, 3, none⟩ = some (.slice none 0 0) := k3.cell 3
  have c4 : w3.cell? ⟨w.heap.size + 1 + 1, 4, none⟩ = some (.slice none 0 0) := k3.cell 4
  have c5 : w3.cell? ⟨w.heap.size + 1 + 1, 5, none⟩ = some (.int .i64 0) := k3.cell 5
  have c6 : w3.cell? ⟨w.heap.size + 1 + 1, 6, none⟩ = some (.int .i64 0) := k3.cell 6
  have c7 : w3.cell? ⟨w.heap.size + 1 + 1, 7, none⟩ = some (.int .i64 0) := k3.cell 7
  have c8 : w3.cell? ⟨w.heap.size + 1 + 1, 8, none⟩ = some (.int .i64 0) := k3.cell 8
  have c9 : w3.cell? ⟨w.heap.size + 1 + 1, 9, none⟩ = some (.int .i64 0) := k3.cell 9
  have c10 : w3.cell? ⟨w.heap.size + 1 + 1, 10, none⟩ = some (.int .i64 0) := k3.cell 10
  have c11 : w3.cell? ⟨w.heap.size + 1 + 1, 11, none⟩ = some (.slice none 0 0) := k3.cell 11
  have c12 : w3.cell? ⟨w.heap.size + 1 + 1, 12, none⟩ = some (.slice none 0 0) := k3.cell 12
  have hl3 := k3.lt
  go_wp2_with fail
  refine wp_region_fen (fun _ => False) [(1, 0), (0, 0)] (by kernel_rfl) (by kernel_rfl) ?_
  simp only [wpSegsF, List.take, List.drop]
  repeat (go_big_quiet_step (fail))
  refine wpQuiet_nil (wpHeadF_want rfl (fun K' hK' => ?_))
  go_wp2_with fail
  have hbm : Below w3.heap.size w3 ((w3.alloc (.cells #[.int .i64 0, .int .i64 0, .int .i64 0, .int .i64 0] 76)).drew) := ((Below.refl w3.heap.size w3).alloc (Nat.le_refl _) _).drew
  have km := (Blk.new w3 76 #[.int .i64 0, .int .i64 0, .int .i64 0, .int .i64 0]).drew
  refine hK' _ _ rfl (fr_graft (Fr.of_below hbm _)) ?_
  clear hK' K'
  generalize (w3.alloc (.cells #[.int .i64 0, .int .i64 0, .int .i64 0, .int .i64 0] 76)).drew = w4 at hbm km ⊢
  try simp only [wpSegsF, List.take, List.drop]
  repeat (go_big_quiet_step (fail))
  refine wpQuiet_nil (wpHeadF_want rfl (fun K' hK' => ?_))
  go_wp2_with fail
  have hL1 : rdFms.ok w4 ⟨some ⟨w3.heap.size, 0, none⟩, 1, [Fm0]⟩ := hd_blk rdFm (l := [Fm0]) km rfl (by decide) (fun f hf => by
    obtain rfl : f = Fm0 := by simpa using hf
    exact fm0_ok _)
  refine (Bounds_any (w := w4) (rdCf.keep hx3 hbm) hL1 (show 1 ≤ 100 by omega) (fun m hm => by obtain rfl := List.mem_singleton.1 hm; show 1 ≤ 100; omega)).mono ?_
  rintro e w5 ⟨v, rfl, hown, hb5⟩
  obtain ⟨UA, uc, rfl, hU, -⟩ := SlG.of_own hown (fun _ _ => rfl) rfl
  rw [wk_bounds] at hU ⊢
  have hB5 := hbm.trans (hb5.mono hbm.size)
  have hV5 := hV.keep hB5
  have hBZ := hBB.trans (hB5.mono hBB.size)
  refine hK' _ _ rfl (fr_graft (Fr.of_below hB5 _)) ?_
  clear hK' K' hown hL1 km hb5 hbm hm1 hV c0 c1 c2 c3 c4 c5 c6 c7 c8 c9 c10 c11 c12
  try simp only [wpSegsF]
  repeat (go_big_quiet_step (fail))
  refine wpQuiet_nil ?_
  obtain ⟨vb, vo, rfl, hvb, hvc⟩ := hV5.at_ Pg0 (k := 2) (by decide)
  obtain ⟨ub, uo, rfl, hub, huc⟩ := hU.at_ Bd0 (k := 0) (by decide)
  obtain ⟨ub', uo', e', hub', huc'⟩ := hU.at_ Bd0 (k := 1) (by decide)
  cases e'
  have v0 : w5.cell? ⟨vb, vo + 2 * 4, none⟩ = some (.int .i64 2000) := hvc 0 _ rfl
  have v1 : w5.cell? ⟨vb, vo + 2 * 4 + 1, none⟩ = some (.int .i64 3000) := hvc 1 _ rfl
  have u1 : w5.cell? ⟨ub, uo + 1, none⟩ = some (.int .i64 10) := by have := huc 1 _ rfl; rw [Nat.zero_mul, Nat.add_zero] at this; exact this
  have u2 : w5.cell? ⟨ub, uo + 2, none⟩ = some (.int .i64 2) := by have := huc 2 _ rfl; rw [Nat.zero_mul, Nat.add_zero] at this; exact this
  have u3 : w5.cell? ⟨ub, uo + 1 * 3, none⟩ = some (.int .i64 30) := huc' 0 _ rfl
  rw [show vo + 2 * 4 = vo + 8 from rfl] at v0 v1
  rw [show uo + 1 * 3 = uo + 3 from rfl] at u3
  clear hvc huc huc'
  go_wp2_with fail
  go_ret
  exact ⟨rfl, hBZ⟩
end Go.Proofs.Ytiglabknaldinaa
