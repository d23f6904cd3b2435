/- The walks of the document's shed (second part). -/
import Derived.Test.YtkmfpchcnbippaaShedWalks2
import Derived.Test.YtkmfpchcnbippaaMix
namespace Go.Proofs.Ytkmfpchcnbippaa
open Go.RowKit

theorem refLevels_any {w : World} {A : Option Addr} {n c : Nat} {ds : List Int} {B : Option Addr} {m d : Nat} {us : List Int} {R : Option Addr} {r q : Nat} {rs : List Int} (hd : SlI w A n c ds) (hu : SlI w B m d us) (hr : SlI w R r q rs) (hsm : r ≤ 100000) :
    Calls Try.prog 12 #[.agg #[.slice A n c, .slice B m d], .slice R r q] w fun e w' => ∃ v, e = .returned v ∧ w'.ownsRow w.heap.size 3 1 v r ((levelsS ds us rs r).map (Value.int .i64)) ∧ Below w.heap.size w w' := by
  obtain ⟨i0, hi0, hz0, hz1, hz2⟩ := info_parts int_info
  have hb0 := (Below.refl w.heap.size w).alloc (Nat.le_refl _) (.cells #[.slice A n c, .slice B m d] 24)
  have hbk := Blk.new w 24 #[.slice A n c, .slice B m d]
  go_enter Try.func12, Try.ntmps12
  go_wp2_with fail
  go_loopw [5, 6, 7] (fun v l i wr => ∃ k : Nat, k ≤ r ∧ i = .int .i64 k ∧ l = .int .i64 (lvlAt ds us rs k) ∧ wr.ownsRow (w.heap.size + 1) 3 1 v k ((levelsS ds us rs k).map (Value.int .i64)) ∧ Blk wr w.heap.size 24 #[.slice A n c, .slice B m d] ∧ Below w.heap.size w wr ∧ w.heap.size + 1 ≤ wr.heap.size) (fun _ _ i _ => r - (intOf i).toNat)
  case atStart => exact ⟨0, Nat.zero_le _, rfl, rfl, World.ownsRow_nil _ _ _ _, hbk, hb0, by simp⟩
  case round =>
    obtain ⟨k, hk, rfl, rfl, hown, hm, hbw, hsz⟩ := hrel
    by_cases hlt : k < r
    · obtain ⟨b, o, rfl, hb, hck⟩ := (hr.keep hbw).at_ hlt
      have hc0 : wr.cell? ⟨w.heap.size, 0, none⟩ = some (.slice A n c) := hm.cell 0
      have hc1 : wr.cell? ⟨w.heap.size, 1, none⟩ = some (.slice B m d) := hm.cell 1
      have hlt1 : w.heap.size < wr.heap.size := by omega
      go_wp2_with fail
      refine wp_region_at (fun _ => False) [6] (by kernel_rfl) (by kernel_rfl) ?_
      simp only [wpSegs, List.take, List.drop]
      repeat (go_big_quiet_step (fail))
      refine wpQuiet_nil (wpHead_want rfl (fun K' hK' => ?_))
      go_wp2_with fail
      refine (refNext_any ((hd.keep hbw).keep (Below.drew (Below.refl _ _))) ((hu.keep hbw).keep (Below.drew (Below.refl _ _))) (lvlAt ds us rs k) (at0 rs k) (lvlAt_rng ds us rs k (by rw [hd.2.1]; exact hd.len))).mono ?_
      rintro e w1 ⟨rfl, hb1⟩
      replace hb1 : Below wr.heap.size wr w1 := (Below.drew (Below.refl _ wr)).trans hb1
      refine hK' _ _ rfl (fr_graft (Fr.of_below hb1 _)) ?_
      try simp only [wpSegs]
      repeat (go_big_quiet_step (fail))
      refine wpQuiet_nil ?_
      have hown1 := own_below hown hb1
      go_wp2_with (at_builtin; refine wpList_app1 w1 (by rfl) _ _ 22 (by rfl) (w.heap.size + 1) 3 i0 _ 1 8 Try.underlying22 hi0 hz0 hz1 hz2 rfl (by decide) (by decide) _ k _ (by rfl) hown1 #[.int .i64 (nextS ds us (lvlAt ds us rs k) (at0 rs k))] rfl (by simp [Value.oneCell']) (by rfl) (by omega) (by have := hb1.size; omega) ?_; intro v' w2 hown2 hf2 hat2)
      refine ⟨⟨k + 1, by omega, by go_num, rfl, by rw [levelsS_succ, List.map_append]; exact hown2, ?_, ?_, ?_⟩, by simp [intOf]; omega⟩
      · exact (hm.keep hb1).fr hf2 (fun h => own_ne hown1 (by omega) h.symm)
      · exact (hbw.trans (hb1.mono (by omega))).trans (hf2.below (fun g hg h => own_ne hown1 (by omega) h.symm) (by have := hb1.size; omega))
      · have := hb1.size; have := hf2.size; omega
    · obtain rfl : k = r := by omega
      go_wp2_with fail
      go_ret
      exact ⟨_, rfl, own_mono hown (by omega), hbw⟩

theorem same_any {w : World} {A : Option Addr} {n c : Nat} {xs : List Int} {B : Option Addr} {m d : Nat} {ys : List Int} (hx : SlI w A n c xs) (hy : SlI w B m d ys) :
    Calls Try.prog 11 #[.slice A n c, .slice B m d] w fun e w' => e = .returned (.bool (decide (xs = ys))) ∧ ∃ k, w' = w.drewN k := by
  have hn := hx.len
  have hm := hy.len
  have hl := hx.2.1
  have hl' := hy.2.1
  by_cases hnm : n = m
  · subst hnm
    have h1 : ((n : Int) != n) = false := by simp
    have key : ∀ k, k ≤ n → (∀ j, j < k → at0 xs j = at0 ys j) → (k = n → decide (xs = ys) = true) := by
      intro k hk h he
      subst he
      rw [decide_eq_true_eq]
      refine List.ext_getElem (by omega) (fun j h1 h2 => ?_)
      have := h j (by omega)
      rwa [at0_lt h1, at0_lt h2] at this
    go_enter Try.func11, Try.ntmps11
    go_wp2_with fail
    go_loopw [5] (fun i wr => ∃ k : Nat, k ≤ n ∧ i = .int .i64 k ∧ (∀ j, j < k → at0 xs j = at0 ys j) ∧ ∃ q, wr = w.drewN q) (fun i _ => n - (intOf i).toNat)
    case atStart => exact ⟨0, Nat.zero_le _, rfl, fun j hj => by omega, 0, rfl⟩
    case round =>
      obtain ⟨k, hk, rfl, hs, q, rfl⟩ := hrel
      have HS := Lib.hid hs
      clear hs
      by_cases hlt : k < n
      · obtain ⟨b, o, rfl, hb, hck⟩ := hx.at_ hlt
        obtain ⟨b', o', rfl, hb', hck'⟩ := hy.at_ hlt
        have KEY := Lib.hid key
        clear key hx hy hl hl'
        by_cases he : at0 xs k = at0 ys k
        · have heb : (at0 xs k != at0 ys k) = false := by simpa using he
          have HE := Lib.hid he
          clear he
          go_wp2_with fail
          go_quiet (fail)
          go_wp2_with fail
          refine ⟨⟨k + 1, by omega, by go_num, fun j hj => ?_, _, rfl⟩, by simp [intOf]; omega⟩
          by_cases hjk : j = k
          · subst hjk; exact HE.out
          · exact HS.out j (by omega)
        · have heb : (at0 xs k != at0 ys k) = true := by simpa using he
          have hne : decide (xs = ys) = false := by
            rw [decide_eq_false_iff_not]; intro h; rw [h] at he; exact he rfl
          have HNE := Lib.hid hne
          clear he hne
          go_wp2_with fail
          go_quiet (fail)
          go_wp2_with fail
          go_ret
          exact ⟨by rw [HNE.out]; rfl, _, by rw [World.drewN_drewN]⟩
      · obtain rfl : k = n := by omega
        have hdec := key k (Nat.le_refl _) HS.out rfl
        have HD := Lib.hid hdec
        clear hdec key
        go_wp2_with fail
        go_ret
        exact ⟨by rw [HD.out]; rfl, _, rfl⟩
  · have h1 : ((n : Int) != m) = true := by simp; omega
    have hne : decide (xs = ys) = false := by
      rw [decide_eq_false_iff_not]; intro h; rw [h] at hl; omega
    have HNE := Lib.hid hne
    clear hne hl hl' hnm
    go_enter Try.func11, Try.ntmps11
    go_wp2_with fail
    go_ret
    exact ⟨by rw [HNE.out]; rfl, 0, rfl⟩
end Go.Proofs.Ytkmfpchcnbippaa
