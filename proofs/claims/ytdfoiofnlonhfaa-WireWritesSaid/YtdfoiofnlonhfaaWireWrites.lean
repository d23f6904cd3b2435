/- The law WireWrites returns true whatever the input. -/
import Derived.Test.YtdfoiofnlonhfaaWireWorks
import Derived.Deep.RegionWith
namespace Go.Proofs.Ytdfoiofnlonhfaa
open Go.RowKit
set_option maxRecDepth 100000 in
set_option maxHeartbeats 4000000 in
theorem wireWrites_law {w : World} (x : Int) (hx : i64 x) (b : Bool) {A : Option Addr} {n c : Nat} {l : List Int} (hl : SlI w A n c l) :
    Calls Try.prog 3 #[.int .i64 x, .bool b, .slice A n c] w fun e w' => e = .returned (.bool true) ∧ Below w.heap.size w w' := by
  have hln := hl.2.1
  by_cases h1 : (200 : Int) < n
  · go_enter Try.func3, Try.ntmps3
    go_wp2_with fail
    refine (works_any _).mono ?_
    rintro e w2 ⟨rfl, hb2⟩
    go_wp2_with fail
    go_ret
    exact ⟨rfl, hb2⟩
  · have h1' : decide ((200 : Int) < n) = false := by simpa using h1
    have hn2 : n ≤ 200 := by omega
    have hw0 := Wrt.new w
    have hb0 := (Below.refl w.heap.size w).alloc (Nat.le_refl _) (.cells #[.slice none 0 0] 29)
    have hz0 : (w.alloc (.cells #[.slice none 0 0] 29)).heap.size = w.heap.size + 1 := by simp
    have hA : ∀ b o, 0 < n → A = some ⟨b, o, none⟩ → b < w.heap.size + 1 ∧ b ≠ w.heap.size := fun b o hp e => by
      have := hl.lt_ hp e
      omega
    have hv := vint_len x
    have hvl : (vlist l).length ≤ 2300 := by
      have := vint_len (l.length : Int)
      have := ints_len l
      unfold vlist
      rw [List.length_append]
      omega
    have hvp : 0 < (vlist l).length := by
      have := vint_len (l.length : Int)
      unfold vlist
      rw [List.length_append]
      omega
    have hvb : (vbool b).length = 1 := rfl
    have HVB := Lib.hid hvb
    clear hvb
    go_enter Try.func3, Try.ntmps3
    go_wp2_with fail
    generalize w.alloc (.cells #[.slice none 0 0] 29) = w0 at hw0 hb0 hz0 ⊢
    refine (writeInt_any hw0 (by decide) hx).mono ?_
    rintro e w1 ⟨rfl, hw1, hf1⟩
    go_wp2_with fail
    refine (writeBool_any hw1 (by rw [List.nil_append]; omega) b).mono ?_
    rintro e w2 ⟨rfl, hw2, hf2⟩
    have hf12 := hf1.trans hf2
    have hl2 : SlI w2 A n c l := ⟨(hl.keep hb0).1.fr hf12 (fun b o hp e h => by have := hA b o hp e; omega), (hl.keep hb0).2⟩
    go_wp2_with fail
    refine (putList_any hw2 (by rw [List.nil_append, List.length_append, HVB.out]; omega) hl2 (by omega) hA).mono ?_
    rintro e w3 ⟨rfl, hw3, hf3⟩
    have hf123 := hf12.trans hf3
    have hB3 : Below w.heap.size w w3 := hb0.trans (hf123.below (fun k hk h => by omega) (by omega))
    have hown3 := own_lit w3 5 1
    have hbx3 := (Below.refl w3.heap.size w3).alloc (Nat.le_refl _) (.cells #[] 5)
    have hw3x := hw3.keep hbx3
    have hz3 : (w3.alloc (.cells #[] 5)).heap.size = w3.heap.size + 1 := by simp
    have hB3x := hB3.trans (hbx3.mono hB3.size)
    go_wp2_with fail
    generalize w3.alloc (.cells #[] 5) = w4 at hown3 hbx3 hw3x hz3 hB3x ⊢
    refine (refInt_any hx).mono ?_
    rintro e w5 ⟨v5, rfl, hown5, hb5⟩
    obtain ⟨A5, c5, rfl, hs5, -⟩ := SlB.of_own hown5
    have hown3' := own_below hown3 hb5
    have hQ5 := hbx3.trans (hb5.mono hbx3.size)
    have hq5 := hQ5.size
    go_wp2_with (at_builtin; refine wpList_appB w5 (by rfl) _ _ (by rfl) w3.heap.size _ 0 [] (by rfl) hown3' A5 _ c5 _ hs5 hv.1 (by rfl) (by omega) (by omega) ?_; intro v6 w6 hown6 hf6 hat6)
    have hQ6 := hQ5.trans (hf6.below (fun k hk h => own_ne hown3' hk h.symm) hq5)
    refine (refBool_any b).mono ?_
    rintro e w7 ⟨A7, c7, rfl, hs7, hb7⟩
    have hown6' := own_below hown6 hb7
    have hQ7 := hQ6.trans (hb7.mono hQ6.size)
    have hq7 := hQ7.size
    go_wp2_with (at_builtin; refine wpList_appB w7 (by rfl) _ _ (by rfl) w3.heap.size _ _ _ (by rfl) hown6' A7 1 c7 _ hs7 (by decide) (by rfl) (by omega) (by omega) ?_; intro v8 w8 hown8 hf8 hat8)
    have hQ8 := hQ7.trans (hf8.below (fun k hk h => own_ne hown6' hk h.symm) hq7)
    have hl8 := hl.keep (hB3.trans (hQ8.mono hB3.size))
    refine (refInts_any hl8 (by omega)).mono ?_
    rintro e w9 ⟨v9, rfl, hown9, hb9⟩
    obtain ⟨A9, c9, rfl, hs9, -⟩ := SlB.of_own hown9
    have hown8' := own_below hown8 hb9
    have hQ9 := hQ8.trans (hb9.mono hQ8.size)
    have hq9 := hQ9.size
    go_wp2_with (at_builtin; refine wpList_appB w9 (by rfl) _ _ (by rfl) w3.heap.size _ _ _ (by rfl) hown8' A9 _ c9 _ hs9 hvp (by rfl) (by omega) (by omega) ?_; intro v10 w10 hown10 hf10 hat10)
    have hQ10 := hQ9.trans (hf10.below (fun k hk h => own_ne hown8' hk h.symm) hq9)
    have hlen : ([] ++ vint x ++ vbool b ++ vlist l).length = 0 + (vint x).length + 1 + (vlist l).length := by
      simp only [List.length_append, HVB.out, List.length_nil]
    have hle : ([] ++ vint x ++ vbool b ++ vlist l).length ≤ 3000 := by omega
    rw [← hlen] at hown10
    have hw10 := hw3.keep hQ10
    have HLN := Lib.hid hlen
    clear hlen hown8 hown8' hown6 hown6' hown3 hown3' hs5 hs7 hs9 hown5 hown9 hw3 hw3x hw2 hw1 hw0
    generalize [] ++ vint x ++ vbool b ++ vlist l = X at hown10 hw10 hle HLN
    obtain ⟨A10, c10, rfl, hs10, -⟩ := SlB.of_own hown10
    have hB10 := hB3.trans (hQ10.mono hB3.size)
    refine (writeInt_nil _).mono ?_
    rintro e w11 ⟨rfl, rfl⟩
    go_wp2_with fail
    refine (writeBool_nil _).mono ?_
    rintro e w11 ⟨rfl, rfl⟩
    go_wp2_with fail
    refine (putList_nil _ _).mono ?_
    rintro e w11 ⟨rfl, rfl⟩

    have hsd := hs10.keep (Below.drew (Below.refl _ _))
    have hwd := hw10.keep (Below.drew (Below.refl _ _))
    have hcv10 := bytes_str hsd
    have HLN2 : Hid (X.length = 0 + (vint x).length + 1 + (vlist l).length) := HLN
    go_wp2_with fail
    go_region_with (first
      | (go_at_call 15; with_reducible refine (writerBytes_any hwd (by omega)).mono ?_; rintro ee w11 ⟨v11, rfl, hown11, hb11⟩; obtain ⟨A11, k11, rfl, hs11, -⟩ := SlB.of_own hown11; have hcv11 := bytes_str hs11; have hcvl := bytes_str (hsd.keep hb11); have hz11 := hb11.size)
      | (go_at_call 15; refine writerBytes_nil.mono ?_; rintro ee w12 ⟨rfl, rfl⟩)
      | (go_at_call 7; refine (works_any _).mono ?_; rintro ee w13 ⟨rfl, hb13⟩))
    all_goals
      have hB11 := hB10.drew.trans (hb11.mono hB10.size)
      go_wp2_with fail
      go_ret
      exact ⟨rfl, hB11.trans (hb13.mono hB11.size)⟩
end Go.Proofs.Ytdfoiofnlonhfaa
