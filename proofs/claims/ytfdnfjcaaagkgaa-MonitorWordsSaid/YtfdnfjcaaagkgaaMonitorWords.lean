/- The law MonitorWords returns true whatever the input. -/
import Derived.Test.YtfdnfjcaaagkgaaMonWorks
namespace Go.Proofs.Ytfdnfjcaaagkgaa
open Go.RowKit

set_option maxRecDepth 100000 in
set_option maxHeartbeats 2000000 in
theorem monitorWords_law {w : World} (x y : Int) :
    Calls Try.prog 6 #[.int .i64 x, .int .i64 y] w fun e w' => e = .returned (.bool true) ∧ Below w.heap.size w w' := by
  have hz : (w.alloc (.cells #[.int .i64 0, .int .i64 0, .int .i64 0, .int .i64 0, .int .i64 0, .int .i64 0, .int .i64 0, .int .i64 0, .int .i64 0, .int .i64 0, .int .i64 0, .int .i64 0, .bool false] 44)).heap.size = w.heap.size + 1 := by simp
  have b1 := (Blk.new w 44 #[.int .i64 0, .int .i64 0, .int .i64 0, .int .i64 0, .int .i64 0, .int .i64 0, .int .i64 0, .int .i64 0, .int .i64 0, .int .i64 0, .int .i64 0, .int .i64 0, .bool false]).alloc (.cells #[.pointer none, .pointer (some ⟨w.heap.size, 0, none⟩)] 25)
  have b2 := Blk.new (w.alloc (.cells #[.int .i64 0, .int .i64 0, .int .i64 0, .int .i64 0, .int .i64 0, .int .i64 0, .int .i64 0, .int .i64 0, .int .i64 0, .int .i64 0, .int .i64 0, .int .i64 0, .bool false] 44)) 25 #[.pointer none, .pointer (some ⟨w.heap.size, 0, none⟩)]
  have hb := ((Below.refl w.heap.size w).alloc (Nat.le_refl _) (.cells #[.int .i64 0, .int .i64 0, .int .i64 0, .int .i64 0, .int .i64 0, .int .i64 0, .int .i64 0, .int .i64 0, .int .i64 0, .int .i64 0, .int .i64 0, .int .i64 0, .bool false] 44)).alloc (by simp) (.cells #[.pointer none, .pointer (some ⟨w.heap.size, 0, none⟩)] 25)
  rw [hz] at b2
  clear hz
  go_enter Try.func6, Try.ntmps6
  go_wp2_with fail
  generalize (w.alloc (.cells #[.int .i64 0, .int .i64 0, .int .i64 0, .int .i64 0, .int .i64 0, .int .i64 0, .int .i64 0, .int .i64 0, .int .i64 0, .int .i64 0, .int .i64 0, .int .i64 0, .bool false] 44)).alloc (.cells #[.pointer none, .pointer (some ⟨w.heap.size, 0, none⟩)] 25) = w0 at b1 b2 hb ⊢
  have gone0 : ∀ q, Gone (w0.drewN q) none := fun _ => .inl rfl
  have gone1 : ∀ q, Gone (w0.drewN q) (some ⟨w.heap.size, 0, none⟩) := fun q => .inr ⟨_, rfl, b1.cell 12⟩
  have c0 : w0.cell? ⟨w.heap.size + 1, 0, none⟩ = some (.pointer none) := b2.cell 0
  have c1 : w0.cell? ⟨w.heap.size + 1, 1, none⟩ = some (.pointer (some ⟨w.heap.size, 0, none⟩)) := b2.cell 1
  refine wp_loop_rounds 3 ?_
  rw [rounds_succ]
  go_wp2_with fail
  refine (last_gone (gone0 0)).mono ?_
  rintro e w2 ⟨rfl, rfl⟩
  go_wp2_with fail
  go_quiet (first | (go_at_call 11; exact Calls.quiet_of_same ((fault_gone (gone0 _) _ _).mono fun _ _ h => ⟨h.1, h.2.symm⟩)) | (go_at_call 12; exact Calls.quiet_of_same ((count_gone (gone0 _) _).mono fun _ _ h => ⟨h.1, h.2.symm⟩)) | (go_at_call 14; exact Calls.quiet_of_same ((total_gone (gone0 _)).mono fun _ _ h => ⟨h.1, h.2.symm⟩)))
  go_wp2_with fail
  have gone1' : ∀ q, Gone ((w0.drewN nq).drewN q) (some ⟨w.heap.size, 0, none⟩) := fun q => .inr ⟨_, rfl, b1.cell 12⟩
  have c1' : (w0.drewN nq).cell? ⟨w.heap.size + 1, 1, none⟩ = some (.pointer (some ⟨w.heap.size, 0, none⟩)) := c1
  have hb' := below_drewN hb nq
  generalize w0.drewN nq = w1 at gone1' c1' hb' ⊢
  clear gone0 gone1 c0 c1 b1 b2 hb
  rw [rounds_succ]
  go_wp2_with fail
  refine (last_gone (gone1' 0)).mono ?_
  rintro e w2 ⟨rfl, rfl⟩
  go_wp2_with fail
  go_quiet (first | (go_at_call 11; exact Calls.quiet_of_same ((fault_gone (gone1' _) _ _).mono fun _ _ h => ⟨h.1, h.2.symm⟩)) | (go_at_call 12; exact Calls.quiet_of_same ((count_gone (gone1' _) _).mono fun _ _ h => ⟨h.1, h.2.symm⟩)) | (go_at_call 14; exact Calls.quiet_of_same ((total_gone (gone1' _)).mono fun _ _ h => ⟨h.1, h.2.symm⟩)))
  go_wp2_with fail
  rw [rounds_succ]
  go_wp2_with fail
  refine (name_any x).mono ?_
  rintro e w2 ⟨rfl, hb2⟩
  have hB2 := (below_drewN hb' _).trans (hb2.mono hb'.size)
  go_wp2_with fail
  refine (nameRef_any x).mono ?_
  rintro e w3 ⟨rfl, rfl⟩
  go_wp2_with fail
  refine (act_any x).mono ?_
  rintro e w3 ⟨rfl, hb3⟩
  have hB3 := hB2.trans (hb3.mono hB2.size)
  go_wp2_with fail
  refine (actRef_any x).mono ?_
  rintro e w4 ⟨rfl, rfl⟩
  go_wp2_with fail
  refine (works_any _).mono ?_
  rintro e w4 ⟨rfl, hb4⟩
  go_wp2_with fail
  go_ret
  exact ⟨rfl, hB3.trans (hb4.mono hB3.size)⟩
end Go.Proofs.Ytfdnfjcaaagkgaa
