/- Frames: a slice of them cloned. -/
import Derived.Test.YtolohbgfhledoaaGrTake
import Derived.Test.YtolohbgfhledoaaGen
import Derived.Lib.SliceRun
namespace Go.Proofs.Ytolohbgfhledoaa
open Go.RowKit
structure Fm where
  (r m d c : Int)
deriving DecidableEq
def Fm.ok (x : Fm) : Prop := i64 x.r ∧ i64 x.m ∧ i64 x.d ∧ i64 x.c
def fmC (x : Fm) : List Value := [.int .i64 x.r, .int .i64 x.m, .int .i64 x.d, .int .i64 x.c]
def fm0 : Fm := ⟨0, 0, 0, 0⟩
theorem fm_info : (Try.prog.info? 78).map (fun i => (i.zero, i.size, i.bytes)) = some (some (.agg #[.int .i64 0, .int .i64 0, .int .i64 0, .int .i64 0]), 4, 32) := by kernel_rfl
theorem fm_cell (l : List Fm) : ∀ u ∈ l.flatMap fmC, u.oneCell' = true := by
  intro u hu
  obtain ⟨x, _, hx⟩ := List.mem_flatMap.1 hu
  unfold fmC at hx
  simp only [List.mem_cons, List.not_mem_nil, or_false] at hx
  rcases hx with rfl | rfl | rfl | rfl <;> rfl
theorem fmC_len (l : List Fm) : (l.flatMap fmC).length = l.length * 4 := flat_len l (fun _ _ => rfl)
theorem cloneF_any {w : World} {A : Option Addr} {n c : Nat} {l : List Fm} (h : SlG w A n c 4 fmC l) (hn : n ≤ 100000) :
    Calls Try.prog 35 #[.slice A n c] w fun e w' => ∃ v, e = .returned v ∧ w'.ownsRow w.heap.size 78 4 v n (l.flatMap fmC) ∧ Below w.heap.size w w' := by
  obtain ⟨i0, hi0, hz0, hz1, hz2⟩ := info_parts fm_info
  have hln := h.2.1
  cases A with
  | none =>
    have hc : c = 0 := h.1.2.2.2.1 rfl
    have hn0 : n = 0 := by have := h.1.2.1; omega
    subst hc hn0
    obtain rfl : l = [] := List.eq_nil_of_length_eq_zero hln
    have hnil := fun w => Lib.run_eql_slice_nil (P := Try.prog) w 47 78 none 0 0 0 0 Try.underlying47
    go_enter Try.func35, Try.ntmps35
    go_wp2_with fail
    go_ret
    exact ⟨_, rfl, World.ownsRow_nil _ _ _ _, Below.refl _ _⟩
  | some ad =>
    have hb0 := (Below.refl w.heap.size w).alloc (Nat.le_refl _) (.cells #[] 78)
    have hown0 := own_lit w 78 4
    have hl0 := h.keep hb0
    have hfl := fmC_len l
    have hnews : ∀ (j : Nat) (u : Value), (l.flatMap fmC)[j]? = some u → (w.alloc (.cells #[] 78)).cell? (ad.add j) = some u := by
      intro j u hu
      have hlt : j < n * 4 := by
        have := (List.getElem?_eq_some_iff.1 hu).1
        rw [hfl, hln] at this
        exact this
      obtain ⟨b, o, e, _, hc⟩ := hl0.1.at_ (by omega)
      cases e
      rw [add_none]
      exact hc j u hu
    have hnil := fun w => Lib.run_eql_slice_nil (P := Try.prog) w 47 78 (some ad) n c 0 0 Try.underlying47
    go_enter Try.func35, Try.ntmps35
    go_wp2_with (at_builtin; refine wpList_append_own_at _ (by rfl) _ _ 47 (by rfl) w.heap.size 78 i0 _ 4 32 Try.underlying47 hi0 hz0 hz1 hz2 rfl (by decide) _ 0 _ (by rfl) hown0 ad n c (l.flatMap fmC) (by rfl) (by rw [hfl, hln]) hnews (fm_cell l) (by unfold maxLen; omega) (by omega) (by simp) ?_; intro v' w1 hown1 hg1 hnil1 hat1)
    go_ret
    exact ⟨v', rfl, by rw [Nat.zero_add, List.nil_append] at hown1; exact hown1, hb0.grown hg1 (by simp) (fun k e => by cases e; exact Nat.le_refl _)⟩
end Go.Proofs.Ytolohbgfhledoaa
