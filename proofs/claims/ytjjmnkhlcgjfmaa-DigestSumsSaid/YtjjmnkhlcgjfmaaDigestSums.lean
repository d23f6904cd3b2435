/- The law DigestSums returns true whatever the input. -/
import Derived.Test.YtjjmnkhlcgjfmaaDigPart
import Derived.Test.YtjjmnkhlcgjfmaaDigWorks
import Derived.Deep.RegionWith
namespace Go.Proofs.Ytjjmnkhlcgjfmaa
open Go.RowKit
theorem sums_get (l : List Ev) {np q : Nat} (h : q < np) : (sumsL l np)[q]? = some (.int .u32 ((crc (allB (ofE l (q : Int))) : Nat) : Int)) := by
  simp [sumsL, h]
theorem bytes_str {w : World} {A : Option Addr} {n c : Nat} {l : List UInt8} (h : SlB w A n c l) : (convert 31 9 (.slice A n c)).run Try.prog w = .ok (.string ⟨l.toArray⟩) w :=
  run_bytes_str _ _ 5 (by kernel_rfl) (by kernel_rfl) (by kernel_rfl) h

set_option maxRecDepth 100000 in
set_option maxHeartbeats 4000000 in
theorem digestSums_law {w : World} {B : Option Addr} {m d : Nat} {bs : List UInt8} (hbs : SlB w B m d bs) {A : Option Addr} {n c : Nat} {l : List Ev} (hl : SlE w A n c l) (x : Int) (_hx : i64 x) :
    Calls Try.prog 7 #[.slice B m d, .slice A n c, .int .i64 x] w fun e w' => e = .returned (.bool true) ∧ Below w.heap.size w w' := by
  have hln := hl.2.1
  have hn := hl.len
  have hm := hbs.len
  by_cases h2 : (2000 : Int) < m
  · go_enter Try.func7, Try.ntmps7
    go_wp2_with fail
    refine (works_any _).mono ?_
    rintro e w2 ⟨rfl, hb2⟩
    go_wp2_with fail
    go_ret
    exact ⟨rfl, hb2⟩
  · have h2' : decide ((2000 : Int) < m) = false := by simpa using h2
    by_cases h1 : (300 : Int) < n
    · go_enter Try.func7, Try.ntmps7
      go_wp2_with fail
      refine (works_any _).mono ?_
      rintro e w2 ⟨rfl, hb2⟩
      go_wp2_with fail
      go_ret
      exact ⟨rfl, hb2⟩
    · have h1' : decide ((300 : Int) < n) = false := by simpa using h1
      have h3 : n ≤ 300 := by omega
      go_enter Try.func7, Try.ntmps7
      go_wp2_with fail
      refine (sum_any hbs).mono ?_
      rintro e w2 ⟨rfl, hb2⟩
      go_wp2_with fail
      refine (refSum_any (hbs.keep hb2)).mono ?_
      rintro e w3 ⟨rfl, rfl⟩
      go_wp2_with fail
      refine (events_any (hl.keep hb2) (by omega)).mono ?_
      rintro e w3 ⟨rfl, hb3⟩
      have hB3 := hb2.trans (hb3.mono hb2.size)
      go_wp2_with fail
      refine (refAll_any (hl.keep hB3) (by omega)).mono ?_
      rintro e w4 ⟨v4, rfl, hown4, hb4⟩
      have hB4 := hB3.trans (hb4.mono hB3.size)
      obtain ⟨A4, c4, rfl, hs4, -⟩ := SlB.of_own hown4
      go_wp2_with fail
      refine (refSum_any hs4).mono ?_
      rintro e w5 ⟨rfl, rfl⟩
      go_wp2_with fail
      clear hown4 hs4 hb4 hb3 hb2 hB3
      go_loopw [7] (fun i wr => ∃ k : Nat, k ≤ n ∧ i = .int .i64 k ∧ Below w.heap.size w wr) (fun i _ => n - (intOf i).toNat)
      case atStart => exact ⟨0, by omega, rfl, hB4⟩
      case round =>
        obtain ⟨k, hk, rfl, hbw⟩ := hrel
        by_cases hlt : k < n
        · obtain ⟨b, o, rfl, hb, c0, c1, c2, c3, c4', c5⟩ := (hl.keep hbw).at_ hlt
          have hi := hl.ok hlt
          generalize atE l k = y at c0 c1 c2 c3 c4' c5 hi
          go_wp2_with fail
          go_region_with (first
            | (go_at_call 14; refine (bytes_any (w := _) hi).mono ?_; rintro ee w2 ⟨v2, rfl, hown2, hb2⟩; obtain ⟨A2, k2, rfl, hs2, -⟩ := SlB.of_own hown2; have hcv2 := bytes_str hs2; obtain ⟨hcc2, -⟩ := bcell hb2; have e0 := (hcc2 _ _ hb).trans c0; have e1 := (hcc2 _ _ hb).trans c1; have e2 := (hcc2 _ _ hb).trans c2; have e3 := (hcc2 _ _ hb).trans c3; have e4 := (hcc2 _ _ hb).trans c4'; have e5 := (hcc2 _ _ hb).trans c5; clear hcc2)
            | (go_at_call 22; refine (refBytes_any (w := _) hi).mono ?_; rintro ee w3 ⟨v3, rfl, hown3, hb3⟩; obtain ⟨A3, k3, rfl, hs3, -⟩ := SlB.of_own hown3; have hcv3 := bytes_str hs3; have hcv23 := bytes_str (hs2.keep hb3)))
          all_goals
            have hB2 := hbw.drew.trans (hb2.mono hbw.size)
            have hB3 := hB2.trans (hb3.mono hB2.size)
            go_wp2_with fail
            exact ⟨⟨k + 1, by omega, by go_num, hB3⟩, by simp [intOf]; omega⟩
        · obtain rfl : k = n := by omega
          obtain ⟨wo, rfl⟩ : ∃ wo : World, wo = wr := ⟨_, rfl⟩
          obtain ⟨np, hnp⟩ : ∃ np : Nat, (np : Int) = max 0 (min x 64) := ⟨(max 0 (min x 64)).toNat, by omega⟩
          have hnp64 : np ≤ 64 := by omega
          have HP := Lib.hid hnp
          clear hnp
          go_wp2_with fail
          refine (parts_any (hl.keep hbw) (by omega) x HP.out).mono ?_
          rintro e w5 ⟨v5, rfl, hown5, hb5⟩
          obtain ⟨A5, c5, rfl, hs5, -⟩ := Sl.of_own hown5
          have hB5 := hbw.trans (hb5.mono hbw.size)
          clear hb5 hown5
          have hnp := HP.out
          have h3c : x ≤ 0 ∧ np = 0 ∨ 0 < x ∧ x ≤ 64 ∧ x = np ∨ 64 < x ∧ np = 64 := by omega
          clear hnp HP
          rcases h3c with ⟨hx0, rfl⟩ | ⟨hx0, hx1, rfl⟩ | ⟨hx0, rfl⟩
          case inl =>
            have hx1 : x ≤ 64 := by omega
            go_wp2_with fail
            go_loopw [9] (fun i wr => ∃ q : Nat, q ≤ 0 ∧ i = .int .i64 q ∧ Below w5.heap.size w5 wr) (fun i _ => 0 - (intOf i).toNat)
            case atStart => exact ⟨0, by omega, rfl, Below.refl _ _⟩
            case round =>
              obtain ⟨q, hq, rfl, hbq⟩ := hrel
              by_cases hlt2 : q < 0
              · exact absurd hlt2 (by omega)
              · obtain rfl : q = 0 := by omega
                go_wp2_with fail
                refine (works_any _).mono ?_
                rintro e w6 ⟨rfl, hb6⟩
                go_wp2_with fail
                go_ret
                have hB6 := hB5.trans (hbq.mono hB5.size)
                exact ⟨rfl, hB6.trans (hb6.mono hB6.size)⟩
          case inr.inl =>
            have hx2 : 0 < np := by omega
            go_wp2_with fail
            go_loopw [9] (fun i wr => ∃ q : Nat, q ≤ np ∧ i = .int .i64 q ∧ Below w5.heap.size w5 wr) (fun i _ => np - (intOf i).toNat)
            case atStart => exact ⟨0, by omega, rfl, Below.refl _ _⟩
            case round =>
              obtain ⟨q, hq, rfl, hbq⟩ := hrel
              by_cases hlt2 : q < np
              · obtain ⟨b5, o5, rfl, hb5, hc5⟩ := (hs5.keep hbq).at_ (by omega)
                have hcq := hc5 q _ (sums_get l hlt2)
                have hlq := (hl.keep hB5).keep hbq
                have hol := ofE_len l (q : Int)
                clear hc5
                go_wp2_with fail
                refine wp_region_at (fun _ => False) [6, 0, 0] (by kernel_rfl) (by kernel_rfl) ?_
                simp only [wpSegs, List.take, List.drop]
                repeat (go_big_quiet_step (fail))
                refine wpQuiet_nil (wpHead_want rfl (fun K' hK' => ?_))
                go_wp2_with fail
                refine (of_any (w := wr.drew) (hlq.keep (Below.drew (Below.refl _ _))) (by omega) (q : Int)).mono ?_
                rintro e w6 ⟨v6, rfl, hown6, hb6⟩
                replace hb6 : Below wr.heap.size wr w6 := (Below.drew (Below.refl _ wr)).trans hb6
                obtain ⟨A6, c6, rfl, hs6, -⟩ := Sl.of_own hown6
                have hse6 : SlE w6 A6 _ c6 (ofE l (q : Int)) := ⟨hs6, rfl, ofE_ok hl.2.2⟩
                refine hK' _ _ rfl (fr_graft (Fr.of_below hb6 _)) ?_
                clear hK' K'
                try simp only [List.take, List.drop]
                repeat (go_big_quiet_step (fail))
                refine wpQuiet_nil (wpHead_want rfl (fun K' hK' => ?_))
                go_wp2_with fail
                refine (refAll_any hse6 (by omega)).mono ?_
                rintro e w7 ⟨v7, rfl, hown7, hb7⟩
                replace hb7 : Below wr.heap.size wr w7 := hb6.trans (hb7.mono hb6.size)
                obtain ⟨A7, c7, rfl, hs7, -⟩ := SlB.of_own hown7
                refine hK' _ _ rfl (fr_graft (Fr.of_below hb7 _)) ?_
                clear hK' K'
                try simp only [List.take, List.drop]
                repeat (go_big_quiet_step (fail))
                refine wpQuiet_nil (wpHead_want rfl (fun K' hK' => ?_))
                go_wp2_with fail
                refine (refSum_any hs7).mono ?_
                rintro e w8 ⟨rfl, rfl⟩
                refine hK' _ _ rfl (fr_graft (Fr.of_below hb7 _)) ?_
                clear hK' K'
                repeat (go_big_quiet_step (fail))
                refine wpQuiet_nil ?_
                go_wp2_with fail
                exact ⟨⟨q + 1, by omega, by go_num, hbq.trans (hb7.mono hbq.size)⟩, by simp [intOf]; omega⟩
              · obtain rfl : q = np := by omega
                go_wp2_with fail
                refine (works_any _).mono ?_
                rintro e w6 ⟨rfl, hb6⟩
                go_wp2_with fail
                go_ret
                have hB6 := hB5.trans (hbq.mono hB5.size)
                exact ⟨rfl, hB6.trans (hb6.mono hB6.size)⟩
          case inr.inr =>
            have hx1 : ¬ x ≤ 64 := by omega
            go_wp2_with fail
            go_loopw [9] (fun i wr => ∃ q : Nat, q ≤ 64 ∧ i = .int .i64 q ∧ Below w5.heap.size w5 wr) (fun i _ => 64 - (intOf i).toNat)
            case atStart => exact ⟨0, by omega, rfl, Below.refl _ _⟩
            case round =>
              obtain ⟨q, hq, rfl, hbq⟩ := hrel
              by_cases hlt2 : q < 64
              · obtain ⟨b5, o5, rfl, hb5, hc5⟩ := (hs5.keep hbq).at_ (by omega)
                have hcq := hc5 q _ (sums_get l hlt2)
                have hlq := (hl.keep hB5).keep hbq
                have hol := ofE_len l (q : Int)
                clear hc5
                go_wp2_with fail
                refine wp_region_at (fun _ => False) [6, 0, 0] (by kernel_rfl) (by kernel_rfl) ?_
                simp only [wpSegs, List.take, List.drop]
                repeat (go_big_quiet_step (fail))
                refine wpQuiet_nil (wpHead_want rfl (fun K' hK' => ?_))
                go_wp2_with fail
                refine (of_any (w := wr.drew) (hlq.keep (Below.drew (Below.refl _ _))) (by omega) (q : Int)).mono ?_
                rintro e w6 ⟨v6, rfl, hown6, hb6⟩
                replace hb6 : Below wr.heap.size wr w6 := (Below.drew (Below.refl _ wr)).trans hb6
                obtain ⟨A6, c6, rfl, hs6, -⟩ := Sl.of_own hown6
                have hse6 : SlE w6 A6 _ c6 (ofE l (q : Int)) := ⟨hs6, rfl, ofE_ok hl.2.2⟩
                refine hK' _ _ rfl (fr_graft (Fr.of_below hb6 _)) ?_
                clear hK' K'
                try simp only [List.take, List.drop]
                repeat (go_big_quiet_step (fail))
                refine wpQuiet_nil (wpHead_want rfl (fun K' hK' => ?_))
                go_wp2_with fail
                refine (refAll_any hse6 (by omega)).mono ?_
                rintro e w7 ⟨v7, rfl, hown7, hb7⟩
                replace hb7 : Below wr.heap.size wr w7 := hb6.trans (hb7.mono hb6.size)
                obtain ⟨A7, c7, rfl, hs7, -⟩ := SlB.of_own hown7
                refine hK' _ _ rfl (fr_graft (Fr.of_below hb7 _)) ?_
                clear hK' K'
                try simp only [List.take, List.drop]
                repeat (go_big_quiet_step (fail))
                refine wpQuiet_nil (wpHead_want rfl (fun K' hK' => ?_))
                go_wp2_with fail
                refine (refSum_any hs7).mono ?_
                rintro e w8 ⟨rfl, rfl⟩
                refine hK' _ _ rfl (fr_graft (Fr.of_below hb7 _)) ?_
                clear hK' K'
                repeat (go_big_quiet_step (fail))
                refine wpQuiet_nil ?_
                go_wp2_with fail
                exact ⟨⟨q + 1, by omega, by go_num, hbq.trans (hb7.mono hbq.size)⟩, by simp [intOf]; omega⟩
              · obtain rfl : q = 64 := by omega
                go_wp2_with fail
                refine (works_any _).mono ?_
                rintro e w6 ⟨rfl, hb6⟩
                go_wp2_with fail
                go_ret
                have hB6 := hB5.trans (hbq.mono hB5.size)
                exact ⟨rfl, hB6.trans (hb6.mono hB6.size)⟩
end Go.Proofs.Ytjjmnkhlcgjfmaa
