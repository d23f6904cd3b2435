/- The law DigestApart returns true whatever the input. -/
import Derived.Test.YtjjmnkhlcgjfmaaDigWorks
import Derived.Test.YtjjmnkhlcgjfmaaEvSame
import Derived.Test.YtjjmnkhlcgjfmaaEvApart
namespace Go.Proofs.Ytjjmnkhlcgjfmaa
open Go.RowKit

set_option maxRecDepth 100000 in
set_option maxHeartbeats 4000000 in
theorem digestApart_law {w : World} {A : Option Addr} {n c : Nat} {l1 : List Ev} (h : SlE w A n c l1) {B : Option Addr} {m d : Nat} {l2 : List Ev} (h2 : SlE w B m d l2) :
    Calls Try.prog 5 #[.slice A n c, .slice B m d] w fun e w' => e = .returned (.bool true) ∧ Below w.heap.size w w' := by
  have hl1 := h.2.1
  have hl2 := h2.2.1
  have hn := h.len
  have hm := h2.len
  have h' := h
  by_cases hbig : (100 : Int) < n
  · go_enter Try.func5, Try.ntmps5
    go_wp2_with fail
    refine (works_any _).mono ?_
    rintro e w2 ⟨rfl, hb2⟩
    go_wp2_with fail
    go_ret
    exact ⟨rfl, hb2⟩
  · have hbig' : decide ((100 : Int) < n) = false := by simpa using hbig
    by_cases hbig2 : (100 : Int) < m
    · go_enter Try.func5, Try.ntmps5
      go_wp2_with fail
      refine (works_any _).mono ?_
      rintro e w2 ⟨rfl, hb2⟩
      go_wp2_with fail
      go_ret
      exact ⟨rfl, hb2⟩
    · have hbig2' : decide ((100 : Int) < m) = false := by simpa using hbig2
      go_enter Try.func5, Try.ntmps5
      go_wp2_with fail
      go_loopw [5, 7] (fun v i wr => ∃ k : Nat, k ≤ n ∧ i = .int .i64 k ∧ wr.ownsRow w.heap.size 5 1 v (allB (l1.take k)).length ((allB (l1.take k)).map bv) ∧ Below w.heap.size w wr) (fun _ i _ => n - (intOf i).toNat)
      case atStart => exact ⟨0, by omega, rfl, World.ownsRow_nil _ _ _ _, Below.refl _ _⟩
      case round =>
        obtain ⟨k, hk, rfl, hown, hbw⟩ := hrel
        have hzr := hbw.size
        by_cases hlt : k < n
        · obtain ⟨b, o, rfl, hb, h0, h1, h2', h3, h4, h5⟩ := (h.keep hbw).at_ hlt
          have hi := h.ok hlt
          have hil := evB_len (atE l1 k)
          have HT : Hid (allB (l1.take (k + 1)) = allB (l1.take k) ++ evB (atE l1 k)) := by unfold Hid; rw [take_snocE l1 k (by omega), allB_snoc]
          have hll := allB_len (l1.take k)
          rw [List.length_take] at hll
          go_wp2_with fail
          refine (bytes_any hi).mono ?_
          rintro ee w2 ⟨v2, rfl, hown2, hb2⟩
          obtain ⟨A2, c2, rfl, hs2, -⟩ := SlB.of_own hown2
          have hownA := own_below hown hb2
          have hz2 := hb2.size
          go_wp2_with (at_builtin; refine wpList_appB w2 (by rfl) _ _ (by rfl) w.heap.size _ _ _ (by rfl) hownA A2 _ c2 _ hs2 hil.1 (by rfl) (by omega) (by omega) ?_; intro v' w3 hown3 hf3 hat3)
          exact ⟨⟨k + 1, by omega, by go_num, by rw [HT.out, List.length_append]; exact hown3, (hbw.trans (hb2.mono hzr)).trans (hf3.below (fun g hg h => own_ne hown hg h.symm) (by omega))⟩, by simp [intOf]; omega⟩
        · obtain rfl : k = n := by omega
          have HT : Hid (l1.take k = l1) := List.take_of_length_le (by omega)
          rw [HT.out] at hown
          obtain ⟨A1, c1, rfl, hs1, -⟩ := SlB.of_own hown
          have hg2 := h2.keep hbw
          have hg1 := h.keep hbw
          obtain ⟨wo, rfl⟩ : ∃ wo : World, wo = wr := ⟨_, rfl⟩
          go_wp2_with fail
          go_loopw [6, 8] (fun v i wr => ∃ j : Nat, j ≤ m ∧ i = .int .i64 j ∧ wr.ownsRow wo.heap.size 5 1 v (allB (l2.take j)).length ((allB (l2.take j)).map bv) ∧ Below wo.heap.size wo wr) (fun _ i _ => m - (intOf i).toNat)
          case atStart => exact ⟨0, by omega, rfl, World.ownsRow_nil _ _ _ _, Below.refl _ _⟩
          case round =>
            obtain ⟨j, hj, rfl, hown', hbw'⟩ := hrel
            have hzr' := hbw'.size
            by_cases hlt' : j < m
            · obtain ⟨b, o, rfl, hb, h0, h1, h2', h3, h4, h5⟩ := (hg2.keep hbw').at_ hlt'
              have hi := hg2.ok hlt'
              have hil := evB_len (atE l2 j)
              have HT : Hid (allB (l2.take (j + 1)) = allB (l2.take j) ++ evB (atE l2 j)) := by unfold Hid; rw [take_snocE l2 j (by omega), allB_snoc]
              have hll := allB_len (l2.take j)
              rw [List.length_take] at hll
              go_wp2_with fail
              refine (bytes_any hi).mono ?_
              rintro ee w2 ⟨v2, rfl, hown2, hb2⟩
              obtain ⟨A2, c2, rfl, hs2, -⟩ := SlB.of_own hown2
              have hownA := own_below hown' hb2
              have hz2 := hb2.size
              go_wp2_with (at_builtin; refine wpList_appB w2 (by rfl) _ _ (by rfl) wo.heap.size _ _ _ (by rfl) hownA A2 _ c2 _ hs2 hil.1 (by rfl) (by omega) (by omega) ?_; intro v' w3 hown3 hf3 hat3)
              exact ⟨⟨j + 1, by omega, by go_num, by rw [HT.out, List.length_append]; exact hown3, (hbw'.trans (hb2.mono hzr')).trans (hf3.below (fun g hg h => own_ne hown' hg h.symm) (by omega))⟩, by simp [intOf]; omega⟩
            · obtain rfl : j = m := by omega
              have HT2 : Hid (l2.take j = l2) := List.take_of_length_le (by omega)
              rw [HT2.out] at hown'
              obtain ⟨A3, c3, rfl, hs3, -⟩ := SlB.of_own hown'
              have hs1' := hs1.keep hbw'
              have hg2' := hg2.keep hbw'
              have hg1' := hg1.keep hbw'
              go_wp2_with fail
              have hbA := hbw.trans (hbw'.mono hbw.size)
              have HI : Hid (l1 = l2 ∨ ¬ l1 = l2 ∧ ¬ allB l1 = allB l2) := by
                unfold Hid
                by_cases he : l1 = l2
                · exact .inl he
                · exact .inr ⟨he, fun h => he (allB_inj h'.2.2 h2.2.2 h)⟩
              have hcv1 : ∀ x, (convert 31 9 (.slice A1 (allB l1).length c1)).run Try.prog (graft (fun _ => False) wr x) = .ok (.string ⟨(allB l1).toArray⟩) (graft (fun _ => False) wr x) := fun x => run_bytes_str _ _ 5 (by kernel_rfl) (by kernel_rfl) (by kernel_rfl) (hs1'.fr (graft_fr _ wr x) (fun _ _ _ _ h => h))
              have hcv2 : ∀ x, (convert 31 9 (.slice A3 (allB l2).length c3)).run Try.prog (graft (fun _ => False) wr x) = .ok (.string ⟨(allB l2).toArray⟩) (graft (fun _ => False) wr x) := fun x => run_bytes_str _ _ 5 (by kernel_rfl) (by kernel_rfl) (by kernel_rfl) (hs3.fr (graft_fr _ wr x) (fun _ _ _ _ h => h))
              rcases HI.out with he | ⟨he, he2⟩
              case' inl =>
                have hd : decide (l1 = l2) = true := by simpa using he
                have hs : (allB l1 == allB l2) = true := by rw [he]; exact beq_self_eq_true _
              case' inr =>
                have hd : decide (l1 = l2) = false := by simpa using he
                have hs : (allB l1 == allB l2) = false := by rw [beq_eq_false_iff_ne]; exact he2
              all_goals
                clear he HI
                refine wp_region_at (fun _ => False) [7, 2] (by kernel_rfl) (by kernel_rfl) ?_
                simp only [wpSegs, List.take, List.drop]
                repeat (go_big_quiet_step (fail))
                refine wpQuiet_nil (wpHead_want rfl (fun K' hK' => ?_))
                go_wp2_with fail
                refine (same_ev_any (w := wr.drew) (hg1'.keep (Below.drew (Below.refl _ _))) (hg2'.keep (Below.drew (Below.refl _ _)))).mono ?_
                rintro e w2 ⟨rfl, q2, rfl⟩
                rw [hd]
                refine hK' _ _ rfl (fr_graft (((Fr.refl _ wr).drew).drewN q2)) ?_
                clear hK' K'
                try simp only [List.take, List.drop]
                repeat (go_big_quiet_step (fail))
                refine wpQuiet_nil (wpHead_want rfl (fun K' hK' => ?_))
                go_wp2_with fail
                refine (works_any _).mono ?_
                rintro e w3 ⟨rfl, hb3⟩
                have hb3' : Below wr.heap.size wr w3 := (below_drewN (Below.refl _ wr) (1 + q2)).trans hb3
                refine hK' _ _ rfl (fr_graft (Fr.of_below hb3' _)) ?_
                clear hK' K'
                repeat (go_big_quiet_step (fail))
                refine wpQuiet_nil ?_
                go_wp2_with fail
                go_ret
                exact ⟨rfl, hbA.trans (hb3'.mono hbA.size)⟩
end Go.Proofs.Ytjjmnkhlcgjfmaa
