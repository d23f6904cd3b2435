/- The walks of package mem: a memory that is not there, and one that no call made. -/
import Derived.Test.YtpgglefimdllbaaMemWord
namespace Go.Proofs.Ytpgglefimdllbaa
open Go.RowKit
def MGone (w : World) (p : Option Addr) : Prop := p = none ∨ ∃ g, p = some ⟨g, 0, none⟩ ∧ Blk w g 56 #[.slice none 0 0, .bool false]
theorem MGone.keep {w w' : World} {p : Option Addr} (h : MGone w p) (hb : Below w.heap.size w w') : MGone w' p := by
  rcases h with rfl | ⟨g, rfl, c⟩
  · exact .inl rfl
  · exact .inr ⟨g, rfl, c.keep hb⟩
theorem find_gone {w : World} {p : Option Addr} (h : MGone w p) (F : Value) (hF : F.oneCell' = true) : Calls Try.prog 27 #[.pointer p, F] w fun e w' => e = .returned (.pointer none) ∧ w = w' := by
  rcases h with rfl | ⟨g, rfl, b⟩
  · go_enter Try.func27, Try.ntmps27
    go_wp2_with fail
    go_ret
    exact ⟨rfl, rfl⟩
  · have c1 : w.cell? ⟨g, 1, none⟩ = some (.bool false) := b.cell 1
    go_enter Try.func27, Try.ntmps27
    go_wp2_with fail
    go_ret
    exact ⟨rfl, rfl⟩
theorem of_gone {w : World} {p : Option Addr} (h : MGone w p) {a n : Int} {wr : Bool} : Calls Try.prog 25 #[.pointer p, .int .i64 a, .int .i64 n, .bool wr] w fun e w' => e = .returned (.pointer none) ∧ Below w.heap.size w w' := by
  obtain ⟨b1, b2, b3, kb, ks⟩ := box3 w #[.int .i64 a] #[.int .i64 n] #[.bool wr] 3 3 4
  go_enter Try.func25, Try.ntmps25
  go_upto_region 1 with fail
  generalize ((w.alloc (.cells #[.int .i64 a] 3)).alloc (.cells #[.int .i64 n] 3)).alloc (.cells #[.bool wr] 4) = w3 at b1 b2 b3 kb ks ⊢
  go_wp2_with fail
  refine (find_gone (h.keep kb) (fnV w.heap.size (w.heap.size + 1) (w.heap.size + 2)) rfl).mono ?_
  rintro e w4 ⟨rfl, rfl⟩
  go_wp2_with fail
  go_ret
  exact ⟨rfl, kb⟩
theorem may_gone {w : World} {p : Option Addr} (h : MGone w p) {a n : Int} {wr : Bool} : Calls Try.prog 19 #[.pointer p, .int .i64 a, .int .i64 n, .bool wr] w fun e w' => e = .returned (.bool false) ∧ Below w.heap.size w w' := by
  go_enter Try.func19, Try.ntmps19
  go_wp2_with fail
  refine (of_gone h).mono ?_
  rintro e w2 ⟨rfl, hb2⟩
  go_wp2_with fail
  go_ret
  exact ⟨rfl, hb2⟩
set_option maxRecDepth 100000 in
theorem load_gone {w : World} {p : Option Addr} (h : MGone w p) {a n : Int} : Calls Try.prog 17 #[.pointer p, .int .i64 a, .int .i64 n] w fun e w' => e = .returned (.tuple #[.slice none 0 0, .bool false]) ∧ Below w.heap.size w w' := by
  go_enter Try.func17, Try.ntmps17
  go_wp2_with fail
  refine (of_gone h).mono ?_
  rintro e w2 ⟨rfl, hb2⟩
  go_wp2_with fail
  go_ret2
  exact ⟨rfl, hb2⟩
theorem store_gone {w : World} {p : Option Addr} (h : MGone w p) {a : Int} {D : Option Addr} {n d : Nat} : Calls Try.prog 15 #[.pointer p, .int .i64 a, .slice D n d] w fun e w' => e = .returned (.bool false) ∧ Below w.heap.size w w' := by
  go_enter Try.func15, Try.ntmps15
  go_wp2_with fail
  refine (of_gone h).mono ?_
  rintro e w2 ⟨rfl, hb2⟩
  go_wp2_with fail
  go_ret
  exact ⟨rfl, hb2⟩
set_option maxRecDepth 100000 in
theorem word_gone {w : World} {p : Option Addr} (h : MGone w p) {a : Int} : Calls Try.prog 9 #[.pointer p, .int .i64 a] w fun e w' => e = .returned (.tuple #[.int .i64 0, .bool false]) ∧ Below w.heap.size w w' := by
  go_enter Try.func9, Try.ntmps9
  go_wp2_with fail
  refine (load_gone h).mono ?_
  rintro e w2 ⟨rfl, hb2⟩
  go_wp2_with fail
  refine wp_loop_rounds 1 ?_
  rw [rounds_succ]
  go_wp2_with fail
  go_ret2
  exact ⟨rfl, hb2⟩
set_option maxRecDepth 100000 in
theorem put_gone {w : World} {p : Option Addr} (h : MGone w p) {a n : Int} : Calls Try.prog 8 #[.pointer p, .int .i64 a, .int .i64 n] w fun e w' => e = .returned (.bool false) ∧ Below w.heap.size w w' := by
  have hmk := run_mk4
  have hb1 := (Below.refl w.heap.size w).alloc (Nat.le_refl _) (.cells #[.int .u8 0, .int .u8 0, .int .u8 0, .int .u8 0] 5)
  have b1 := Blk.new w 5 #[.int .u8 0, .int .u8 0, .int .u8 0, .int .u8 0]
  go_enter Try.func8, Try.ntmps8
  go_upto_region 2 with fail
  generalize w.alloc (.cells #[.int .u8 0, .int .u8 0, .int .u8 0, .int .u8 0] 5) = w1 at hb1 b1 ⊢
  clear hmk
  have e0 : w1.cell? ⟨w.heap.size, 0, none⟩ = some (.int .u8 0) := b1.cell 0
  have e1 : w1.cell? ⟨w.heap.size, 1, none⟩ = some (.int .u8 0) := b1.cell 1
  have e2 : w1.cell? ⟨w.heap.size, 2, none⟩ = some (.int .u8 0) := b1.cell 2
  have e3 : w1.cell? ⟨w.heap.size, 3, none⟩ = some (.int .u8 0) := b1.cell 3
  have hf : ∀ i, w1.frozen? ⟨w.heap.size, i, none⟩ = false := b1.frozen
  have hl1 := b1.lt
  go_wp2_with fail
  refine wp_loop_rounds 5 ?_
  rw [rounds_succ]
  go_wp2_with fail
  rw [rounds_succ]
  go_wp2_with fail
  rw [rounds_succ]
  go_wp2_with fail
  rw [rounds_succ]
  go_wp2_with fail
  rw [rounds_succ]
  go_wp2_with fail
  have hb2 := below_set4 (g := w.heap.size) hb1 (Nat.le_refl _) (.int .u8 (n % 256)) (.int .u8 (n / 256 % 256)) (.int .u8 (n / 65536 % 256)) (.int .u8 (n / 16777216 % 256))
  generalize (((w1.setCell ⟨w.heap.size, 0, none⟩ (.int .u8 (n % 256))).setCell ⟨w.heap.size, 1, none⟩ (.int .u8 (n / 256 % 256))).setCell ⟨w.heap.size, 2, none⟩ (.int .u8 (n / 65536 % 256))).setCell ⟨w.heap.size, 3, none⟩ (.int .u8 (n / 16777216 % 256)) = w2 at hb2 ⊢
  refine (store_gone (h.keep hb2)).mono ?_
  rintro e w3 ⟨rfl, hb3⟩
  go_wp2_with fail
  go_ret
  exact ⟨rfl, hb2.trans (hb3.mono hb2.size)⟩
set_option maxRecDepth 100000 in
theorem clear_gone {w : World} {p : Option Addr} (h : MGone w p) : Calls Try.prog 18 #[.pointer p] w fun e w' => e = .returned (.tuple #[]) ∧ w = w' := by
  rcases h with rfl | ⟨g, rfl, b⟩
  · go_enter Try.func18, Try.ntmps18
    go_wp2_with fail
    refine bodyPost_ret (results_none rfl _ _ _) rfl ?_
    exact ⟨rfl, rfl⟩
  · have c0 : w.cell? ⟨g, 0, none⟩ = some (.slice none 0 0) := b.cell 0
    go_enter Try.func18, Try.ntmps18
    go_wp2_with fail
    refine wp_loop_rounds 1 ?_
    rw [rounds_succ]
    go_wp2_with fail
    go_end0
    exact ⟨rfl, rfl⟩
set_option maxRecDepth 100000 in
theorem bytes_gone {w : World} {p : Option Addr} (h : MGone w p) : Calls Try.prog 16 #[.pointer p, .int .i64 0] w fun e w' => e = .returned (.slice none 0 0) ∧ w = w' := by
  rcases h with rfl | ⟨g, rfl, b⟩
  · go_enter Try.func16, Try.ntmps16
    go_wp2_with fail
    go_ret
    exact ⟨rfl, rfl⟩
  · have c0 : w.cell? ⟨g, 0, none⟩ = some (.slice none 0 0) := b.cell 0
    go_enter Try.func16, Try.ntmps16
    go_wp2_with fail
    go_ret
    exact ⟨rfl, rfl⟩
end Go.Proofs.Ytpgglefimdllbaa
