/- The document's Same on numbers. -/
import Derived.Test.YtdfoiofnlonhfaaMix
import Derived.Test.YtdfoiofnlonhfaaProg
namespace Go.Proofs.Ytdfoiofnlonhfaa
open Go.RowKit
theorem same_any {w : World} {A : Option Addr} {n c : Nat} {xs : List Int} {B : Option Addr} {m d : Nat} {ys : List Int} (hx : SlI w A n c xs) (hy : SlI w B m d ys) :
    Calls Try.prog 23 #[.slice A n c, .slice B m d] w fun e w' => e = .returned (.bool (decide (xs = ys))) ∧ ∃ k, w' = w.drewN k := by
  have hn := hx.len
  have hm := hy.len
  have hl := hx.2.1
  have hl' := hy.2.1
  by_cases hnm : n = m
  · subst hnm
    have h1 : ((n : Int) != n) = false := by simp
    have key : ∀ k, k ≤ n → (∀ j, j < k → at0 xs j = at0 ys j) → (k = n → decide (xs = ys) = true) := by
      intro k hk h he
      subst he
      rw [decide_eq_true_eq]
      refine List.ext_getElem (by omega) (fun j h1 h2 => ?_)
      have := h j (by omega)
      rwa [at0_lt h1, at0_lt h2] at this
    go_enter Try.func23, Try.ntmps23
    go_wp2_with fail
    go_loopw [5] (fun i wr => ∃ k : Nat, k ≤ n ∧ i = .int .i64 k ∧ (∀ j, j < k → at0 xs j = at0 ys j) ∧ ∃ q, wr = w.drewN q) (fun i _ => n - (intOf i).toNat)
    case atStart => exact ⟨0, Nat.zero_le _, rfl, fun j hj => by omega, 0, rfl⟩
    case round =>
      obtain ⟨k, hk, rfl, hs, q, rfl⟩ := hrel
      have HS := Lib.hid hs
      clear hs
      by_cases hlt : k < n
      · obtain ⟨b, o, rfl, hb, hck⟩ := hx.at_ hlt
        obtain ⟨b', o', rfl, hb', hck'⟩ := hy.at_ hlt
        have KEY := Lib.hid key
        clear key hx hy hl hl'
        by_cases he : at0 xs k = at0 ys k
        · have heb : (at0 xs k != at0 ys k) = false := by simpa using he
          have HE := Lib.hid he
          clear he
          go_wp2_with fail
          go_quiet (fail)
          go_wp2_with fail
          refine ⟨⟨k + 1, by omega, by go_num, fun j hj => ?_, _, rfl⟩, by simp [intOf]; omega⟩
          by_cases hjk : j = k
          · subst hjk; exact HE.out
          · exact HS.out j (by omega)
        · have heb : (at0 xs k != at0 ys k) = true := by simpa using he
          have hne : decide (xs = ys) = false := by
            rw [decide_eq_false_iff_not]; intro h; rw [h] at he; exact he rfl
          have HNE := Lib.hid hne
          clear he hne
          go_wp2_with fail
          go_quiet (fail)
          go_wp2_with fail
          go_ret
          exact ⟨by rw [HNE.out]; rfl, _, by rw [World.drewN_drewN]⟩
      · obtain rfl : k = n := by omega
        have hdec := key k (Nat.le_refl _) HS.out rfl
        have HD := Lib.hid hdec
        clear hdec key
        go_wp2_with fail
        go_ret
        exact ⟨by rw [HD.out]; rfl, _, rfl⟩
  · have h1 : ((n : Int) != m) = true := by simp; omega
    have hne : decide (xs = ys) = false := by
      rw [decide_eq_false_iff_not]; intro h; rw [h] at hl; omega
    have HNE := Lib.hid hne
    clear hne hl hl' hnm
    go_enter Try.func23, Try.ntmps23
    go_wp2_with fail
    go_ret
    exact ⟨by rw [HNE.out]; rfl, 0, rfl⟩
end Go.Proofs.Ytdfoiofnlonhfaa
