/- The walks of package ground's laws: back. -/
import Derived.Test.YtolohbgfhledoaaGroundNone
namespace Go.Proofs.Ytolohbgfhledoaa
open Go.RowKit
set_option maxRecDepth 100000 in
theorem lawBack_any {w : World} {p : Pk} : Calls Try.prog 14 #[p.val] w fun e w' => e = .returned p.val ∧ Below w.heap.size w w' := by
  obtain ⟨q, k, f, v⟩ := p
  have hb := (Below.refl w.heap.size w).alloc (Nat.le_refl _) (.cells #[.int .i64 q, .int .i64 k, .int .i64 f, .int .i64 v] 29)
  show Calls Try.prog _ #[.agg #[.int .i64 q, .int .i64 k, .int .i64 f, .int .i64 v]] w _
  go_enter Try.func14, Try.ntmps14
  go_wp2_with fail
  have b2 := Blk.new (w.alloc (.cells #[.int .i64 q, .int .i64 k, .int .i64 f, .int .i64 v] 29)) 23 #[.int .i64 q, .int .i64 k, .int .i64 f, .int .i64 v]
  have hsz : (w.alloc (.cells #[.int .i64 q, .int .i64 k, .int .i64 f, .int .i64 v] 29)).heap.size = w.heap.size + 1 := by unfold World.alloc; exact Array.size_push _
  have hB := hb.trans (((Below.refl (w.alloc (.cells #[.int .i64 q, .int .i64 k, .int .i64 f, .int .i64 v] 29)).heap.size (w.alloc (.cells #[.int .i64 q, .int .i64 k, .int .i64 f, .int .i64 v] 29))).alloc (Nat.le_refl _) (.cells #[.int .i64 q, .int .i64 k, .int .i64 f, .int .i64 v] 23)).mono hb.size)
  rw [hsz] at b2
  generalize (w.alloc (.cells #[.int .i64 q, .int .i64 k, .int .i64 f, .int .i64 v] 29)).alloc (.cells #[.int .i64 q, .int .i64 k, .int .i64 f, .int .i64 v] 23) = w2 at b2 hB ⊢
  have y0 : w2.cell? ⟨w.heap.size + 1, 0, none⟩ = some (.int .i64 q) := b2.cell 0
  have y1 : w2.cell? ⟨w.heap.size + 1, 1, none⟩ = some (.int .i64 k) := b2.cell 1
  have y2 : w2.cell? ⟨w.heap.size + 1, 2, none⟩ = some (.int .i64 f) := b2.cell 2
  have y3 : w2.cell? ⟨w.heap.size + 1, 3, none⟩ = some (.int .i64 v) := b2.cell 3
  exact bodyPost_ret (v := .agg #[.int .i64 q, .int .i64 k, .int .i64 f, .int .i64 v]) (by simp [results, Try.results14, go_sem, y0, y1, y2, y3]) rfl ⟨rfl, hB⟩
end Go.Proofs.Ytolohbgfhledoaa
