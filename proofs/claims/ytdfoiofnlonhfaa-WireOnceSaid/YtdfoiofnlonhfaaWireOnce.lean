/- The law WireOnce returns true whatever the input. -/
import Derived.Test.YtdfoiofnlonhfaaWireWorks
import Derived.Deep.RegionWith
namespace Go.Proofs.Ytdfoiofnlonhfaa
open Go.RowKit
set_option maxRecDepth 100000 in
set_option maxHeartbeats 2000000 in
theorem wireOnce_law {w : World} {A : Option Addr} {n c : Nat} {l : List UInt8} (hl : SlB w A n c l) :
    Calls Try.prog 4 #[.slice A n c] w fun e w' => e = .returned (.bool true) ∧ Below w.heap.size w w' := by
  have hll := hl.2
  by_cases h1 : (400 : Int) < n
  · go_enter Try.func4, Try.ntmps4
    go_wp2_with fail
    refine (works_any _).mono ?_
    rintro e w2 ⟨rfl, hb2⟩
    go_wp2_with fail
    go_ret
    exact ⟨rfl, hb2⟩
  · have h1' : decide ((400 : Int) < n) = false := by simpa using h1
    have hn4 : n ≤ 400 := by omega
    have hrg := gList_rng 400 ⟨l, 0⟩
    have HI : Hid ((gList 400 ⟨l, 0⟩).2.e = 0 → l = vlist (gList 400 ⟨l, 0⟩).1 ++ (gList 400 ⟨l, 0⟩).2.l) := gList_inv
    go_enter Try.func4, Try.ntmps4
    go_wp2_with fail
    refine (read_any hl (by omega)).mono ?_
    rintro e w2 ⟨g, B, rfl, hr2, hg2, hb2⟩
    go_wp2_with fail
    refine (list_any hr2 (by omega)).mono ?_
    rintro e w3 ⟨v3, rfl, hown3, hr3, hf3⟩
    generalize (gList 400 ⟨l, 0⟩).1 = ns at hown3 hrg HI
    generalize (gList 400 ⟨l, 0⟩).2 = s at hr3 HI
    obtain ⟨A3, c3, rfl, hs3, -⟩ := slI_own hown3 hrg
    have hB3 : Below w.heap.size w w3 := hb2.trans (hf3.below (fun k hk h => by omega) hb2.size)
    go_wp2_with fail
    refine (end_any hr3).mono ?_
    rintro e w4 ⟨rfl, rfl⟩
    by_cases he : endS s = 0
    · have heb : (endS s != 0) = false := by simpa using he
      have hL : l = vlist ns := by
        unfold endS at he
        split at he
        · omega
        · rename_i hno
          have hnil : s.l = [] := by
            cases hc : s.l with
            | nil => rfl
            | cons a b => exact absurd ⟨he, by rw [hc]; simp⟩ hno
          have := HI.out he
          rw [hnil, List.append_nil] at this
          exact this
      have hns : ns.length ≤ 400 := by
        have := congrArg List.length hL
        have h2 : ns.length ≤ (ints ns).length := by
          clear this hL HI hrg hown3 hs3 he heb
          induction ns with
          | nil => simp
          | cons x r ih =>
            have := (vint_len x).1
            simp only [ints, List.flatMap_cons, List.length_append, List.length_cons] at ih ⊢
            omega
        unfold vlist at this
        rw [List.length_append] at this
        omega
      have HL := Lib.hid hL
      clear hL he HI
      have hw4 := Wrt.new w3
      have hb4 := (Below.refl w3.heap.size w3).alloc (Nat.le_refl _) (.cells #[.slice none 0 0] 29)
      have hz4 : (w3.alloc (.cells #[.slice none 0 0] 29)).heap.size = w3.heap.size + 1 := by simp
      have hA3 : ∀ b o, 0 < ns.length → A3 = some ⟨b, o, none⟩ → b < w3.heap.size + 1 ∧ b ≠ w3.heap.size := fun b o hp e => by
        have := hs3.lt_ hp e
        omega
      go_wp2_with fail
      generalize w3.alloc (.cells #[.slice none 0 0] 29) = w4 at hw4 hb4 hz4 ⊢
      refine (putList_any hw4 (by decide) (hs3.keep hb4) (by omega) hA3).mono ?_
      rintro e w5 ⟨rfl, hw5, hf5⟩
      rw [List.nil_append, ← HL.out] at hw5
      have hB5 : Below w.heap.size w w5 := (hB3.trans (hb4.mono hB3.size)).trans (hf5.below (fun k hk h => by have := hB3.size; omega) (by have := hB3.size; omega))
      have hl5 := (hl.keep hB5).keep (Below.drew (Below.refl _ _))
      have hwd := hw5.keep (Below.drew (Below.refl _ _))
      have hcv5 := bytes_str hl5
      go_wp2_with fail
      go_region_with (first
        | (go_at_call 15; refine (writerBytes_any hwd (by omega)).mono ?_; rintro ee w6 ⟨v6, rfl, hown6, hb6⟩; obtain ⟨A6, k6, rfl, hs6, -⟩ := SlB.of_own hown6; have hcv6 := bytes_str hs6; rw [hll] at hcv6; have hcvl := bytes_str (hl5.keep hb6); have hz6 := hb6.size)
        | (go_at_call 7; refine (works_any _).mono ?_; rintro ee w7 ⟨rfl, hb7⟩))
      all_goals
        have hB6 : Below w.heap.size w w6 := hB5.drew.trans (hb6.mono hB5.size)
        go_wp2_with fail
        go_ret
        exact ⟨rfl, hB6.trans (hb7.mono hB6.size)⟩
    · have heb : (endS s != 0) = true := by simpa using he
      clear he HI
      go_wp2_with fail
      refine (works_any _).mono ?_
      rintro e w4 ⟨rfl, hb4⟩
      go_wp2_with fail
      go_ret
      exact ⟨rfl, hB3.trans (hb4.mono hB3.size)⟩
end Go.Proofs.Ytdfoiofnlonhfaa
