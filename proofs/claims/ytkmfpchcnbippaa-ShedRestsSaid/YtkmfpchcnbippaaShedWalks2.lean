/- The walks of package shed, the second part: Levels, Is, Resting, and the document's. -/
import Derived.Test.YtkmfpchcnbippaaShedWalks
namespace Go.Proofs.Ytkmfpchcnbippaa
open Go.RowKit
theorem int_info : (Try.prog.info? 3).map (fun i => (i.zero, i.size, i.bytes)) = some (some (.int .i64 0), 1, 8) := by kernel_rfl

theorem levels_any {w : World} {A : Option Addr} {n c : Nat} {ds : List Int} {B : Option Addr} {m d : Nat} {us : List Int} {R : Option Addr} {r q : Nat} {rs : List Int} (hd : SlI w A n c ds) (hu : SlI w B m d us) (hr : SlI w R r q rs) (hsm : r ≤ 100000) :
    Calls Try.prog 8 #[.agg #[.slice A n c, .slice B m d], .slice R r q] w fun e w' => ∃ v, e = .returned v ∧ w'.ownsRow w.heap.size 3 1 v r ((levelsS ds us rs r).map (Value.int .i64)) ∧ Below w.heap.size w w' := by
  obtain ⟨i0, hi0, hz0, hz1, hz2⟩ := info_parts int_info
  have hb0 := ((Below.refl w.heap.size w).alloc (Nat.le_refl _) (.cells #[.slice A n c, .slice B m d] 24)).alloc (by simp) (.cells #[.slice A n c, .slice B m d, .int .i64 0] 50)
  have hbk := Blk.new (w.alloc (.cells #[.slice A n c, .slice B m d] 24)) 50 #[.slice A n c, .slice B m d, .int .i64 0]
  rw [World.size_alloc] at hbk
  go_enter Try.func8, Try.ntmps8
  go_wp2_with fail
  go_loopw [6, 15] (fun v i wr => ∃ k : Nat, k ≤ r ∧ i = .int .i64 k ∧ wr.ownsRow (w.heap.size + 2) 3 1 v k ((levelsS ds us rs k).map (Value.int .i64)) ∧ Mach wr (w.heap.size + 1) A n c ds B m d us (lvlAt ds us rs k) ∧ Below w.heap.size w wr ∧ w.heap.size + 2 ≤ wr.heap.size) (fun _ i _ => r - (intOf i).toNat)
  case atStart => exact ⟨0, Nat.zero_le _, rfl, World.ownsRow_nil _ _ _ _, ⟨hbk, hd.keep hb0, hu.keep hb0, by unfold i64 lvlAt; omega⟩, hb0, by simp⟩
  case round =>
    obtain ⟨k, hk, rfl, hown, hm, hbw, hsz⟩ := hrel
    by_cases hlt : k < r
    · obtain ⟨b, o, rfl, hb, hck⟩ := (hr.keep hbw).at_ hlt
      go_wp2_with fail
      refine (step_any hm (fun g o' hn e => hd.ne_ (by omega) hn g o' e) (fun g o' hn e => hu.ne_ (by omega) hn g o' e) _).mono ?_
      rintro e w1 ⟨rfl, hm1, hf1⟩
      have hown1 := own_far hown hf1 (fun k hk => by omega)
      go_wp2_with (at_builtin; refine wpList_app1 w1 (by rfl) _ _ 22 (by rfl) (w.heap.size + 2) 3 i0 _ 1 8 Try.underlying22 hi0 hz0 hz1 hz2 rfl (by decide) (by decide) _ k _ (by rfl) hown1 #[.int .i64 (nextS ds us (lvlAt ds us rs k) (at0 rs k))] rfl (by simp [Value.oneCell']) (by rfl) (by omega) (by have := hf1.size; omega) ?_; intro v' w2 hown2 hf2 hat2)
      refine ⟨⟨k + 1, by omega, by go_num, by rw [levelsS_succ, List.map_append]; exact hown2, hm1.fr hf2 (fun h => own_ne hown1 (by omega) h.symm) (fun g o' hn e h => ?_) (fun g o' hn e h => ?_), ?_, ?_⟩, by simp [intOf]; omega⟩
      · exact own_ne hown1 (by have := hd.lt_ hn e; omega) h.symm
      · exact own_ne hown1 (by have := hu.lt_ hn e; omega) h.symm
      · exact (hbw.trans (hf1.below (by intro k hk; omega) (by omega))).trans (hf2.below (fun g hg h => own_ne hown1 (by omega) h.symm) (by have := hf1.size; omega))
      · have := hf1.size; have := hf2.size; omega
    · obtain rfl : k = r := by omega
      go_wp2_with fail
      go_ret
      exact ⟨_, rfl, own_mono hown (by omega), hbw⟩

theorem refNext_any {w : World} {A : Option Addr} {n c : Nat} {ds : List Int} {B : Option Addr} {m d : Nat} {us : List Int} (hd : SlI w A n c ds) (hu : SlI w B m d us) (lv rd : Int) (hlv : i64 lv) :
    Calls Try.prog 10 #[.agg #[.slice A n c, .slice B m d], .int .i64 lv, .int .i64 rd] w fun e w' => e = .returned (.int .i64 (nextS ds us lv rd)) ∧ Below w.heap.size w w' := by
  have hn := hd.len
  have hm := hu.len
  have hl := hd.2.1
  have hl' := hu.2.1
  unfold i64 at hlv
  have hb0 := (Below.refl w.heap.size w).alloc (Nat.le_refl _) (.cells #[.slice A n c, .slice B m d] 24)
  by_cases h1 : 0 ≤ lv ∧ lv < n ∧ rd < at0 ds lv.toNat
  · obtain ⟨h1, h2, h3⟩ := h1
    obtain ⟨bs, o, rfl, hbs, hck⟩ := hd.at_ (k := lv.toNat) (by omega)
    have HF : Hid (nextS ds us lv rd = lv + 1) := by
      unfold nextS low Hid; rw [if_pos (by simp; omega)]
    clear hd hu hl hl' hm
    go_enter Try.func10, Try.ntmps10
    go_wp2_with fail
    go_ret
    exact ⟨by rw [HF.out]; rfl, hb0⟩
  · have hlo : low ds lv rd = false := by unfold low; simp; omega
    have HF : Hid (nextS ds us lv rd = if high us lv rd then lv - 1 else lv) := by
      unfold nextS Hid; rw [hlo]; simp
    have fin : ∀ (r : Int), (if high us lv rd then lv - 1 else lv) = r → Calls Try.prog 10 #[.agg #[.slice A n c, .slice B m d], .int .i64 lv, .int .i64 rd] w (fun e w' => e = .returned (.int .i64 r) ∧ Below w.heap.size w w') → Calls Try.prog 10 #[.agg #[.slice A n c, .slice B m d], .int .i64 lv, .int .i64 rd] w fun e w' => e = .returned (.int .i64 (nextS ds us lv rd)) ∧ Below w.heap.size w w' := by
      intro r hr hc
      rw [HF.out, hr]; exact hc
    have low3 : lv < 0 ∨ (n : Int) ≤ lv ∨ (0 ≤ lv ∧ lv < n ∧ at0 ds lv.toNat ≤ rd) := by omega
    by_cases h4 : 1 ≤ lv ∧ lv ≤ m ∧ at0 us (lv.toNat - 1) ≤ rd
    · refine fin (lv - 1) (by unfold high; rw [if_pos (by simp; omega)]) ?_
      obtain ⟨h4, h5, h6⟩ := h4
      obtain ⟨bs, o, rfl, hbs, hck⟩ := hu.at_ (k := lv.toNat - 1) (by omega)
      have h4' : 0 < lv := by omega
      have h5' : lv - 1 < m := by omega
      rcases low3 with h7 | h7 | ⟨h7, h8, h9⟩
      · omega
      · clear hu hl hl' h1
        go_enter Try.func10, Try.ntmps10
        go_wp2_with fail
        go_ret
        exact ⟨rfl, hb0⟩
      · obtain ⟨bs', o', rfl, hbs', hck'⟩ := hd.at_ (k := lv.toNat) (by omega)
        clear hu hd hl hl' h1
        go_enter Try.func10, Try.ntmps10
        go_wp2_with fail
        go_ret
        exact ⟨rfl, hb0⟩
    · refine fin lv (by unfold high; rw [if_neg (by simp; omega)]) ?_
      have high3 : lv < 1 ∨ (m : Int) < lv ∨ (1 ≤ lv ∧ lv ≤ m ∧ rd < at0 us (lv.toNat - 1)) := by omega
      rcases high3 with h10 | h10 | ⟨h10, h11, h12⟩
      · have h10' : lv ≤ 0 := by omega
        rcases low3 with h7 | h7 | ⟨h7, h8, h9⟩
        · clear hu hl hl' h1
          go_enter Try.func10, Try.ntmps10
          go_wp2_with fail
          go_ret
          exact ⟨rfl, hb0⟩
        · clear hu hl hl' h1
          go_enter Try.func10, Try.ntmps10
          go_wp2_with fail
          all_goals (go_ret; exact ⟨rfl, hb0⟩)
        · obtain ⟨bs', o', rfl, hbs', hck'⟩ := hd.at_ (k := lv.toNat) (by omega)
          clear hu hd hl hl' h1
          go_enter Try.func10, Try.ntmps10
          go_wp2_with fail
          go_ret
          exact ⟨rfl, hb0⟩
      · have h10' : (m : Int) ≤ lv - 1 := by omega
        rcases low3 with h7 | h7 | ⟨h7, h8, h9⟩
        · omega
        · clear hu hl hl' h1
          go_enter Try.func10, Try.ntmps10
          go_wp2_with fail
          all_goals (go_ret; exact ⟨rfl, hb0⟩)
        · obtain ⟨bs', o', rfl, hbs', hck'⟩ := hd.at_ (k := lv.toNat) (by omega)
          clear hu hd hl hl' h1
          go_enter Try.func10, Try.ntmps10
          go_wp2_with fail
          go_ret
          exact ⟨rfl, hb0⟩
      · obtain ⟨bs, o, rfl, hbs, hck⟩ := hu.at_ (k := lv.toNat - 1) (by omega)
        have h5' : lv - 1 < m := by omega
        rcases low3 with h7 | h7 | ⟨h7, h8, h9⟩
        · omega
        · clear hu hl hl' h1 h4
          go_enter Try.func10, Try.ntmps10
          go_wp2_with fail
          go_ret
          exact ⟨rfl, hb0⟩
        · obtain ⟨bs', o', rfl, hbs', hck'⟩ := hd.at_ (k := lv.toNat) (by omega)
          clear hu hd hl hl' h1 h4
          go_enter Try.func10, Try.ntmps10
          go_wp2_with fail
          go_ret
          exact ⟨rfl, hb0⟩
end Go.Proofs.Ytkmfpchcnbippaa
