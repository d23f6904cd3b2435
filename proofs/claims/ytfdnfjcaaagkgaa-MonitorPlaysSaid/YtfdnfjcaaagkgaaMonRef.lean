/- The walks of the document's monitor. -/
import Derived.Test.YtfdnfjcaaagkgaaMonitorActs
namespace Go.Proofs.Ytfdnfjcaaagkgaa
open Go.RowKit
theorem refAct_any {w : World} {A : Option Addr} {n c : Nat} {l : List Int} (hl : SlI w A n c l) (k : Int) :
    Calls Try.prog 10 #[.slice A n c, .int .i64 k] w fun e w' => e = .returned (.int .i64 (rAct l k)) ∧ w = w' := by
  have hn := hl.len
  have hll := hl.2.1
  by_cases h0 : k < 0
  · have HR := Lib.hid (rAct_no l (isB_no (n := k) (by omega)))
    go_enter Try.func10, Try.ntmps10
    go_wp2_with fail
    go_ret
    exact ⟨by rw [HR.out]; rfl, rfl⟩
  · have h0' : decide (k < 0) = false := by simpa using h0
    by_cases h4 : 4 < k
    · have HR := Lib.hid (rAct_no l (isB_no (n := k) (by omega)))
      go_enter Try.func10, Try.ntmps10
      go_wp2_with fail
      go_ret
      exact ⟨by rw [HR.out]; rfl, rfl⟩
    · have h4' : decide (4 < k) = false := by simpa using h4
      obtain ⟨j, rfl⟩ := Int.eq_ofNat_of_zero_le (show 0 ≤ k by omega)
      have hj5 : j < 5 := by omega
      have HR0 := rAct_yes l j hj5
      by_cases hjn : j < n
      · obtain ⟨b, o, rfl, hb, hc⟩ := hl.at_ hjn
        have hjn' : decide ((n : Int) ≤ j) = false := by simp; omega
        by_cases hi : isB (at0 l j) = true
        · have HR : Hid (rAct l j = at0 l j) := by unfold Hid; rw [HR0]; unfold actN; rw [if_pos ⟨by omega, hi⟩]
          have hib := isB_iff.1 hi
          have d1 : decide (at0 l j < 0) = false := by simp; omega
          have d2 : decide (4 < at0 l j) = false := by simp; omega
          clear HR0 hi hib
          go_enter Try.func10, Try.ntmps10
          go_wp2_with fail
          go_ret
          exact ⟨by rw [HR.out]; rfl, rfl⟩
        · have HR : Hid (rAct l j = 0) := by unfold Hid; rw [HR0]; unfold actN; rw [if_neg (fun h => hi h.2)]
          have hib : ¬ (0 ≤ at0 l j ∧ at0 l j < 5) := fun h => hi (isB_iff.2 h)
          by_cases hneg : at0 l j < 0
          · clear HR0 hi hib
            go_enter Try.func10, Try.ntmps10
            go_wp2_with fail
            go_ret
            exact ⟨by rw [HR.out]; rfl, rfl⟩
          · have d1 : decide (at0 l j < 0) = false := by simp; omega
            have d2 : 4 < at0 l j := by omega
            clear HR0 hi hib hneg
            go_enter Try.func10, Try.ntmps10
            go_wp2_with fail
            go_ret
            exact ⟨by rw [HR.out]; rfl, rfl⟩
      · have HR : Hid (rAct l j = 0) := by unfold Hid; rw [HR0]; unfold actN; rw [if_neg (fun h => hjn (by omega))]
        have hjn' : decide ((n : Int) ≤ j) = true := by simp; omega
        clear HR0
        go_enter Try.func10, Try.ntmps10
        go_wp2_with fail
        go_ret
        exact ⟨by rw [HR.out]; rfl, rfl⟩
/-- the document's monitor at block r heard L -/
def RefSt (w : World) (r base : Nat) (va : Value) (L : List Flt) : Prop := ∃ v, Blk w r 29 #[va, v] ∧ r < base ∧ base ≤ w.heap.size ∧ w.ownsRow base 34 2 v L.length (L.flatMap fltC)
theorem RefSt.keep {w w' : World} {r base : Nat} {va : Value} {L : List Flt} (h : RefSt w r base va L) (hb : Below w.heap.size w w') : RefSt w' r base va L := by
  obtain ⟨v, h1, h2, h3, h4⟩ := h
  exact ⟨v, h1.keep hb, h2, Nat.le_trans h3 hb.size, own_below h4 hb⟩
theorem RefSt.fr {S : Nat → Prop} {w w' : World} {r base : Nat} {va : Value} {L : List Flt} (h : RefSt w r base va L) (hb : Fr S w w') (hS : ∀ k, S k → k ≠ r ∧ k < base) : RefSt w' r base va L := by
  obtain ⟨v, h1, h2, h3, h4⟩ := h
  exact ⟨v, h1.fr hb (fun h => (hS _ h).1 rfl), h2, Nat.le_trans h3 hb.size, own_far h4 hb (fun k hk => (hS k hk).2)⟩
theorem cnt_take (L : List Flt) (j : Int) {k : Nat} (hk : k < L.length) : cntF (L.take (k + 1)) j = cntF (L.take k) j + if (atD flt0 L k).kind = j then 1 else 0 := by
  rw [take_snocG flt0 L k hk, cnt_snoc]
theorem refCount_any {w : World} {r base : Nat} {va : Value} {L : List Flt} (h : RefSt w r base va L) (hL : L.length ≤ 1000) (j : Int) :
    Calls Try.prog 13 #[.pointer (some ⟨r, 0, none⟩), .int .i64 j] w fun e w' => e = .returned (.int .i64 (cntF L j)) ∧ w = w' := by
  obtain ⟨v, h1, h2, h3, h4⟩ := h
  obtain ⟨A, c, rfl, hs, -⟩ := SlG.of_own h4 (fun _ _ => rfl) rfl
  have cl : w.cell? ⟨r, 1, none⟩ = some (.slice A L.length c) := h1.cell 1
  have hrl := h1.lt
  generalize hn : L.length = n at hs cl hL
  have HNL := Lib.hid hn
  clear hn h4
  go_enter Try.func13, Try.ntmps13
  go_wp2_with fail
  go_loop [5, 6] (fun v i => ∃ k : Nat, k ≤ n ∧ i = .int .i64 k ∧ v = .int .i64 (cntF (L.take k) j)) (fun _ i => n - (intOf i).toNat)
  case atStart => exact ⟨0, Nat.zero_le _, rfl, rfl⟩
  case round =>
    obtain ⟨k, hk, rfl, rfl⟩ := hrel
    by_cases hlt : k < n
    · obtain ⟨b, o, rfl, hb, hc0, hc1⟩ := flt_at hs hlt
      have hle := cnt_le (L.take k) j
      have hle2 : (L.take k).length ≤ k := List.length_take_le _ _
      have HT : Hid (cntF (L.take (k + 1)) j = cntF (L.take k) j + if (atD flt0 L k).kind = j then 1 else 0) := cnt_take L j (by have := HNL.out; omega)
      generalize cntF (L.take k) j = a at hle HT ⊢
      by_cases he : (atD flt0 L k).kind = j
      · rw [if_pos he] at HT
        have he' : ((atD flt0 L k).kind == j) = true := by simpa using he
        clear he
        go_wp2_with fail
        exact ⟨⟨k + 1, by omega, by go_num, by rw [HT.out]; go_num⟩, by simp [intOf]; omega⟩
      · rw [if_neg he] at HT
        have he' : ((atD flt0 L k).kind == j) = false := by simpa using he
        clear he
        go_wp2_with fail
        exact ⟨⟨k + 1, by omega, by go_num, by rw [HT.out]; go_num⟩, by simp [intOf]; omega⟩
    · obtain rfl : k = n := by omega
      have HT : Hid (L.take k = L) := List.take_of_length_le (by have := HNL.out; omega)
      rw [HT.out]
      go_wp2_with fail
      go_ret
      exact ⟨rfl, rfl⟩
end Go.Proofs.Ytfdnfjcaaagkgaa
