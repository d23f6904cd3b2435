/- The walk of the document's Next (shed). -/
import Derived.Test.YtiglabknaldinaaShedWalks
namespace Go.Proofs.Ytiglabknaldinaa
open Go.RowKit
theorem refNext_any {w : World} {A : Option Addr} {n c : Nat} {ds : List Int} {B : Option Addr} {m d : Nat} {us : List Int} (hd : SlI w A n c ds) (hu : SlI w B m d us) (lv rd : Int) (hlv : i64 lv) :
    Calls Try.prog 19 #[.agg #[.slice A n c, .slice B m d], .int .i64 lv, .int .i64 rd] w fun e w' => e = .returned (.int .i64 (nextS ds us lv rd)) ∧ Below w.heap.size w w' := by
  have hn := hd.len
  have hm := hu.len
  have hl := hd.2.1
  have hl' := hu.2.1
  unfold i64 at hlv
  have hb0 := (Below.refl w.heap.size w).alloc (Nat.le_refl _) (.cells #[.slice A n c, .slice B m d] 31)
  by_cases h1 : 0 ≤ lv ∧ lv < n ∧ rd < at0 ds lv.toNat
  · obtain ⟨h1, h2, h3⟩ := h1
    obtain ⟨bs, o, rfl, hbs, hck⟩ := hd.at_ (k := lv.toNat) (by omega)
    have HF : Hid (nextS ds us lv rd = lv + 1) := by
      unfold nextS low Hid; rw [if_pos (by simp; omega)]
    clear hd hu hl hl' hm
    go_enter Try.func19, Try.ntmps19
    go_wp2_with fail
    go_ret
    exact ⟨by rw [HF.out]; rfl, hb0⟩
  · have hlo : low ds lv rd = false := by unfold low; simp; omega
    have HF : Hid (nextS ds us lv rd = if high us lv rd then lv - 1 else lv) := by
      unfold nextS Hid; rw [hlo]; simp
    have fin : ∀ (r : Int), (if high us lv rd then lv - 1 else lv) = r → Calls Try.prog 19 #[.agg #[.slice A n c, .slice B m d], .int .i64 lv, .int .i64 rd] w (fun e w' => e = .returned (.int .i64 r) ∧ Below w.heap.size w w') → Calls Try.prog 19 #[.agg #[.slice A n c, .slice B m d], .int .i64 lv, .int .i64 rd] w fun e w' => e = .returned (.int .i64 (nextS ds us lv rd)) ∧ Below w.heap.size w w' := by
      intro r hr hc
      rw [HF.out, hr]; exact hc
    have low3 : lv < 0 ∨ (n : Int) ≤ lv ∨ (0 ≤ lv ∧ lv < n ∧ at0 ds lv.toNat ≤ rd) := by omega
    by_cases h4 : 1 ≤ lv ∧ lv ≤ m ∧ at0 us (lv.toNat - 1) ≤ rd
    · refine fin (lv - 1) (by unfold high; rw [if_pos (by simp; omega)]) ?_
      obtain ⟨h4, h5, h6⟩ := h4
      obtain ⟨bs, o, rfl, hbs, hck⟩ := hu.at_ (k := lv.toNat - 1) (by omega)
      have h4' : 0 < lv := by omega
      have h5' : lv - 1 < m := by omega
      rcases low3 with h7 | h7 | ⟨h7, h8, h9⟩
      · omega
      · clear hu hl hl' h1
        go_enter Try.func19, Try.ntmps19
        go_wp2_with fail
        go_ret
        exact ⟨rfl, hb0⟩
      · obtain ⟨bs', o', rfl, hbs', hck'⟩ := hd.at_ (k := lv.toNat) (by omega)
        clear hu hd hl hl' h1
        go_enter Try.func19, Try.ntmps19
        go_wp2_with fail
        go_ret
        exact ⟨rfl, hb0⟩
    · refine fin lv (by unfold high; rw [if_neg (by simp; omega)]) ?_
      have high3 : lv < 1 ∨ (m : Int) < lv ∨ (1 ≤ lv ∧ lv ≤ m ∧ rd < at0 us (lv.toNat - 1)) := by omega
      rcases high3 with h10 | h10 | ⟨h10, h11, h12⟩
      · have h10' : lv ≤ 0 := by omega
        rcases low3 with h7 | h7 | ⟨h7, h8, h9⟩
        · clear hu hl hl' h1
          go_enter Try.func19, Try.ntmps19
          go_wp2_with fail
          go_ret
          exact ⟨rfl, hb0⟩
        · clear hu hl hl' h1
          go_enter Try.func19, Try.ntmps19
          go_wp2_with fail
          all_goals (go_ret; exact ⟨rfl, hb0⟩)
        · obtain ⟨bs', o', rfl, hbs', hck'⟩ := hd.at_ (k := lv.toNat) (by omega)
          clear hu hd hl hl' h1
          go_enter Try.func19, Try.ntmps19
          go_wp2_with fail
          go_ret
          exact ⟨rfl, hb0⟩
      · have h10' : (m : Int) ≤ lv - 1 := by omega
        rcases low3 with h7 | h7 | ⟨h7, h8, h9⟩
        · omega
        · clear hu hl hl' h1
          go_enter Try.func19, Try.ntmps19
          go_wp2_with fail
          all_goals (go_ret; exact ⟨rfl, hb0⟩)
        · obtain ⟨bs', o', rfl, hbs', hck'⟩ := hd.at_ (k := lv.toNat) (by omega)
          clear hu hd hl hl' h1
          go_enter Try.func19, Try.ntmps19
          go_wp2_with fail
          go_ret
          exact ⟨rfl, hb0⟩
      · obtain ⟨bs, o, rfl, hbs, hck⟩ := hu.at_ (k := lv.toNat - 1) (by omega)
        have h5' : lv - 1 < m := by omega
        rcases low3 with h7 | h7 | ⟨h7, h8, h9⟩
        · omega
        · clear hu hl hl' h1 h4
          go_enter Try.func19, Try.ntmps19
          go_wp2_with fail
          go_ret
          exact ⟨rfl, hb0⟩
        · obtain ⟨bs', o', rfl, hbs', hck'⟩ := hd.at_ (k := lv.toNat) (by omega)
          clear hu hd hl hl' h1 h4
          go_enter Try.func19, Try.ntmps19
          go_wp2_with fail
          go_ret
          exact ⟨rfl, hb0⟩
end Go.Proofs.Ytiglabknaldinaa
