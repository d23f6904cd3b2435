/- The law file's own check 'works', and how owned rows are read as slices of ints. -/
import Derived.Test.YtkmfpchcnbippaaShedWalks4
namespace Go.Proofs.Ytkmfpchcnbippaa
open Go.RowKit
theorem SlI.of_own {w : World} {base : Nat} {e : TypeId} {v : Value} {n : Nat} {l : List Int} (h : w.ownsRow base e 1 v n (l.map (Value.int .i64))) (hr : ∀ x ∈ l, i64 x) : ∃ A c, v = .slice A n c ∧ SlI w A n c l ∧ ∀ b o, A = some ⟨b, o, none⟩ → base ≤ b := by
  obtain ⟨A, c, hv, hs, hb⟩ := Sl.of_own h
  exact ⟨A, c, hv, ⟨hs, by have := hs.1; simpa using this, hr⟩, hb⟩
theorem levelsS_rng (ds us rs : List Int) (k : Nat) (hd : ds.length ≤ 9223372036854775807) : ∀ x ∈ levelsS ds us rs k, i64 x := by
  intro x hx
  unfold levelsS at hx
  obtain ⟨j, _, rfl⟩ := List.mem_map.1 hx
  exact lvlAt_rng ds us rs (j + 1) hd

theorem works_any (w : World) : Calls Try.prog 7 #[] w fun e w' => e = .returned (.bool true) ∧ Below w.heap.size w w' := by
  have b1 := Blk.new w 3 #[.int .i64 500]
  have b2 := Blk.new (w.alloc (.cells #[.int .i64 500] 3)) 3 #[.int .i64 600]
  have b3 := Blk.new ((w.alloc (.cells #[.int .i64 500] 3)).alloc (.cells #[.int .i64 600] 3)) 3 #[.int .i64 499, .int .i64 550, .int .i64 600]
  have s1 := SlI.of_blk ((b1.alloc (.cells #[.int .i64 600] 3)).alloc (.cells #[.int .i64 499, .int .i64 550, .int .i64 600] 3)) [500] rfl (by decide) (by intro x hx; simp at hx; subst hx; unfold i64; omega)
  have s2 := SlI.of_blk (b2.alloc (.cells #[.int .i64 499, .int .i64 550, .int .i64 600] 3)) [600] rfl (by decide) (by intro x hx; simp at hx; subst hx; unfold i64; omega)
  have s3 := SlI.of_blk b3 [499, 550, 600] rfl (by decide) (by intro x hx; simp at hx; rcases hx with rfl | rfl | rfl <;> unfold i64 <;> omega)
  have hb := (((Below.refl w.heap.size w).alloc (Nat.le_refl _) (.cells #[.int .i64 500] 3)).alloc (by simp) (.cells #[.int .i64 600] 3)).alloc (by simp; omega) (.cells #[.int .i64 499, .int .i64 550, .int .i64 600] 3)
  go_enter Try.func7, Try.ntmps7
  go_wp2_with fail
  simp only [World.size_alloc] at s1 s2 s3
  generalize ((w.alloc (.cells #[.int .i64 500] 3)).alloc (.cells #[.int .i64 600] 3)).alloc (.cells #[.int .i64 499, .int .i64 550, .int .i64 600] 3) = w1 at s1 s2 s3 hb ⊢
  clear b1 b2 b3
  refine (levels_any s1 s2 s3 (by decide)).mono ?_
  rintro e w2 ⟨v, rfl, hown, hb2⟩
  obtain ⟨A, c, rfl, hs, -⟩ := SlI.of_own hown (levelsS_rng _ _ _ _ (by decide))
  go_wp2_with fail
  have b4 := Blk.new w2 3 #[.int .i64 1, .int .i64 1, .int .i64 0]
  have s4 := SlI.of_blk b4 [1, 1, 0] rfl (by decide) (by intro x hx; simp at hx; rcases hx with rfl | rfl <;> unfold i64 <;> omega)
  have hb3 := (Below.refl w2.heap.size w2).alloc (Nat.le_refl _) (.cells #[.int .i64 1, .int .i64 1, .int .i64 0] 3)
  refine (same_any (hs.keep hb3) s4).mono ?_
  rintro e w3 ⟨rfl, k, rfl⟩
  rw [show decide (levelsS [500] [600] [499, 550, 600] [(499 : Int), 550, 600].length = [1, 1, 0]) = true from by decide]
  go_wp2_with fail
  refine (is_any _ _ _).mono ?_
  rintro e w4 ⟨rfl, rfl⟩
  rw [show isR 1 1 = true from by decide]
  go_wp2_with fail
  refine (is_any _ _ _).mono ?_
  rintro e w4 ⟨rfl, rfl⟩
  rw [show isR 0 9 = false from by decide]
  go_wp2_with fail
  go_ret
  exact ⟨rfl, below_drewN (hb.trans ((hb2.trans (hb3.mono hb2.size)).mono hb.size)) _⟩
end Go.Proofs.Ytkmfpchcnbippaa
