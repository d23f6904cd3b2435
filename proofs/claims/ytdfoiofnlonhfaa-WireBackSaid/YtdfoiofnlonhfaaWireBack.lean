/- The law WireBack returns true whatever the input. -/
import Derived.Test.YtdfoiofnlonhfaaWireWorks
import Derived.Test.YtdfoiofnlonhfaaSameInts
namespace Go.Proofs.Ytdfoiofnlonhfaa
open Go.RowKit
set_option maxRecDepth 100000 in
set_option maxHeartbeats 1000000 in
theorem wireBack_law {w : World} (x : Int) (hx : i64 x) {A : Option Addr} {n c : Nat} {l : List Int} (hl : SlI w A n c l) {D : Option Addr} {m d : Nat} {bh : List UInt8} (hbh : SlB w D m d bh) :
    Calls Try.prog 6 #[.int .i64 x, .slice A n c, .slice D m d] w fun e w' => e = .returned (.bool true) ∧ Below w.heap.size w w' := by
  have hln := hl.2.1
  have hnl := hl.len
  have hml := hbh.2
  by_cases h1 : (200 : Int) < n
  · go_enter Try.func6, Try.ntmps6
    go_wp2_with fail
    refine (works_any _).mono ?_
    rintro e w2 ⟨rfl, hb2⟩
    go_wp2_with fail
    go_ret
    exact ⟨rfl, hb2⟩
  · have h1' : decide ((200 : Int) < n) = false := by simpa using h1
    by_cases h2 : (200 : Int) < m
    · go_enter Try.func6, Try.ntmps6
      go_wp2_with fail
      refine (works_any _).mono ?_
      rintro e w2 ⟨rfl, hb2⟩
      go_wp2_with fail
      go_ret
      exact ⟨rfl, hb2⟩
    · have h2' : decide ((200 : Int) < m) = false := by simpa using h2
      have hn2 : n ≤ 200 := by omega
      have hm2 : m ≤ 200 := by omega
      have hw0 := Wrt.new w
      have hb0 := (Below.refl w.heap.size w).alloc (Nat.le_refl _) (.cells #[.slice none 0 0] 29)
      have hz0 : (w.alloc (.cells #[.slice none 0 0] 29)).heap.size = w.heap.size + 1 := by simp
      have hA : ∀ b o, 0 < n → A = some ⟨b, o, none⟩ → b < w.heap.size + 1 ∧ b ≠ w.heap.size := fun b o hp e => by
        have := hl.lt_ hp e
        omega
      have hv := vint_len x
      have hvl : (vlist l).length ≤ 2300 := by
        have := vint_len (l.length : Int)
        have := ints_len l
        unfold vlist
        rw [List.length_append]
        omega
      go_enter Try.func6, Try.ntmps6
      go_wp2_with fail
      generalize hbb : ((n : Int) % 2 == 1) = b
      have HBB := Lib.hid hbb
      clear hbb
      have hvb : (vbool b).length = 1 := rfl
      have HVB := Lib.hid hvb
      clear hvb
      generalize w.alloc (.cells #[.slice none 0 0] 29) = w0 at hw0 hb0 hz0 ⊢
      refine (writeInt_any hw0 (by decide) hx).mono ?_
      rintro e w1 ⟨rfl, hw1, hf1⟩
      go_wp2_with fail
      refine (writeBool_any hw1 (by rw [List.nil_append]; omega) b).mono ?_
      rintro e w2 ⟨rfl, hw2, hf2⟩
      have hf12 := hf1.trans hf2
      have hl2 : SlI w2 A n c l := ⟨(hl.keep hb0).1.fr hf12 (fun b o hp e h => by have := hA b o hp e; omega), (hl.keep hb0).2⟩
      go_wp2_with fail
      refine (putList_any hw2 (by rw [List.nil_append, List.length_append, HVB.out]; omega) hl2 (by omega) hA).mono ?_
      rintro e w3 ⟨rfl, hw3, hf3⟩
      have hf123 := hf12.trans hf3
      have hB3 : Below w.heap.size w w3 := hb0.trans (hf123.below (fun k hk h => by omega) (by omega))
      have hlen : ([] ++ vint x ++ vbool b ++ vlist l).length ≤ 2400 := by
        simp only [List.length_append, HVB.out, List.length_nil]
        omega
      have HX : Hid ([] ++ vint x ++ vbool b ++ vlist l ++ bh = vint x ++ (vbool b ++ (vlist l ++ bh))) := by unfold Hid; simp
      clear hw0 hw1 hw2 hvl hv
      generalize [] ++ vint x ++ vbool b ++ vlist l = X at hw3 hlen HX
      go_wp2_with fail
      refine (writerBytes_any hw3 (by omega)).mono ?_
      rintro e w4 ⟨v4, rfl, hown4, hb4⟩
      have hB4 := hB3.trans (hb4.mono hB3.size)
      have hbh4 := hbh.keep hB4
      have hq4 := hb4.size
      go_wp2_with (at_builtin; refine wpList_appB0 w4 (by rfl) _ _ (by rfl) w3.heap.size _ _ _ (by rfl) hown4 D _ d _ hbh4 (by rfl) (by omega) (by omega) ?_; intro v5 w5 hown5 hf5)
      have hB5 := hB3.trans (((hb4.trans (hf5.below (fun k hk h => own_ne hown4 hk h.symm) hq4))).mono hB3.size)
      have hlx : (X ++ bh).length = X.length + m := by rw [List.length_append, hml]
      rw [← hlx] at hown5
      have hlx2 : (X ++ bh).length ≤ 3000 := by omega
      rw [HX.out] at hown5 hlx2
      clear hlx
      generalize hY : vint x ++ (vbool b ++ (vlist l ++ bh)) = Y at hown5 hlx2
      have HY := Lib.hid hY
      clear hY
      obtain ⟨A5, c5, rfl, hs5, -⟩ := SlB.of_own hown5
      refine (read_any hs5 (by omega)).mono ?_
      rintro e w6 ⟨g, B, rfl, hr6, hg6, hb6⟩
      have hB6 := hB5.trans (hb6.mono hB5.size)
      have hgw : w.heap.size ≤ g := Nat.le_trans hB5.size hg6
      rw [← HY.out] at hr6
      go_wp2_with fail
      refine (rdInt_any hr6).mono ?_
      rintro e w7 ⟨rfl, hr7, hf7⟩
      rw [gInt_vint hx] at hr7 ⊢
      go_wp2_with fail
      refine (rdBool_any hr7).mono ?_
      rintro e w8 ⟨rfl, hr8, hf8⟩
      rw [gBool_vbool] at hr8 ⊢
      go_wp2_with fail
      refine (list_any hr8 (by omega)).mono ?_
      rintro e w9 ⟨v9, rfl, hown9, hr9, hf9⟩
      rw [gList_vlist hl.2.2 (by omega) (by omega)] at hr9 hown9
      simp only at hr9 hown9
      obtain ⟨A9, c9, rfl, hs9, -⟩ := slI_own hown9 hl.2.2
      have hB9 := hB6.trans (((hf7.trans hf8).trans hf9).below (fun k hk h => by omega) hB6.size)
      have hl9 := hl.keep hB9
      have HLN : Hid (l.length = n) := hln
      go_wp2_with fail
      rw [hln] at hs9
      refine (same_any hs9 hl9).mono ?_
      rintro e w10 ⟨rfl, q10, rfl⟩
      rw [show decide (l = l) = true by simp]
      have hr10 : RdSt (w9.drewN q10) g B ⟨bh, 0⟩ := hr9
      go_wp2_with fail
      refine (err_any hr10).mono ?_
      rintro e w11 ⟨rfl, rfl⟩
      go_wp2_with fail
      refine (end_any hr10).mono ?_
      rintro e w11 ⟨rfl, rfl⟩
      have hend : (endS ⟨bh, 0⟩ == 0) = ((m : Int) == 0) := by
        unfold endS
        cases bh with
        | nil => have : m = 0 := by simpa using hml.symm
                 subst this; rfl
        | cons y r =>
          have : m = r.length + 1 := by simpa using hml.symm
          subst this
          simp
          omega
      have HE := Lib.hid hend
      clear hend
      by_cases hbn : bh = []
      case' pos =>
        have hm0 : m = 0 := by rw [hbn] at hml; simpa using hml.symm
        have e1 : endS ⟨bh, 0⟩ = 0 := by rw [hbn]; rfl
        rw [e1]
        subst hm0
      case' neg =>
        have hm0 : ((m : Int) == 0) = false := by
          have : m ≠ 0 := fun h => hbn (List.eq_nil_of_length_eq_zero (by omega))
          simp; omega
        have e1 : endS ⟨bh, 0⟩ = 11 := by unfold endS; rw [if_pos ⟨rfl, hbn⟩]
        rw [e1]
      all_goals
        clear e1 hbn HE
        go_wp2_with fail
        refine (works_any _).mono ?_
        rintro e w12 ⟨rfl, hb12⟩
        go_wp2_with fail
        go_ret
        exact ⟨rfl, (below_drewN hB9 q10).trans (hb12.mono hB9.size)⟩
end Go.Proofs.Ytdfoiofnlonhfaa
