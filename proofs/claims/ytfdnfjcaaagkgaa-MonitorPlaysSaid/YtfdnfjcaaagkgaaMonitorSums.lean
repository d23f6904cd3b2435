/- The law MonitorSums returns true whatever the input. -/
import Derived.Test.YtfdnfjcaaagkgaaMonWorks
import Derived.Test.YtfdnfjcaaagkgaaGen
namespace Go.Proofs.Ytfdnfjcaaagkgaa
open Go.RowKit
def flt0 : Flt := ⟨0, 0⟩
theorem flt_at {w : World} {B : Option Addr} {m d : Nat} {lf : List Flt} (hf : SlG w B m d 2 fltC lf) {k : Nat} (hk : k < m) : ∃ b o, B = some ⟨b, o, none⟩ ∧ b < w.heap.size ∧
    w.cell? ⟨b, o + k * 2, none⟩ = some (.int .i64 (atD flt0 lf k).kind) ∧ w.cell? ⟨b, o + k * 2 + 1, none⟩ = some (.int .i64 (atD flt0 lf k).proc) := by
  obtain ⟨b, o, e, hb, hc⟩ := hf.at_ flt0 hk
  exact ⟨b, o, e, hb, hc 0 _ rfl, hc 1 _ rfl⟩
theorem heard_take (l : List Flt) (k : Nat) : (heard (l.take k)).length ≤ k := by
  have h1 := heard_len (l.take k)
  have h2 : (l.take k).length ≤ k := List.length_take_le _ _
  omega
theorem heard_v (l : List Flt) : ∀ f ∈ heard l, isB f.kind = true := fun _ h => (heard_mem h).2
theorem heard_yes {l : List Flt} {k : Nat} (hk : k < l.length) (h : isB (atD flt0 l k).kind = true) : heard (l.take (k + 1)) = heard (l.take k) ++ [atD flt0 l k] := by
  rw [take_snocG flt0 l k hk, heard_snoc, h]; rfl
theorem heard_no {l : List Flt} {k : Nat} (hk : k < l.length) (h : isB (atD flt0 l k).kind = false) : heard (l.take (k + 1)) = heard (l.take k) := by
  rw [take_snocG flt0 l k hk, heard_snoc, h]; simp

set_option maxRecDepth 100000 in
set_option maxHeartbeats 2000000 in
theorem monitorSums_law {w : World} {A : Option Addr} {n c : Nat} {l : List Int} (hl : SlI w A n c l) {B : Option Addr} {m d : Nat} {lf : List Flt} (hf : SlG w B m d 2 fltC lf) :
    Calls Try.prog 5 #[.slice A n c, .slice B m d] w fun e w' => e = .returned (.bool true) ∧ Below w.heap.size w w' := by
  have hn := hl.len
  have hm := hf.len
  have hfl := hf.2.1
  by_cases h1 : (100 : Int) < n
  · go_enter Try.func5, Try.ntmps5
    go_wp2_with fail
    refine (works_any _).mono ?_
    rintro e w2 ⟨rfl, hb2⟩
    go_wp2_with fail
    go_ret
    exact ⟨rfl, hb2⟩
  · have h1' : decide ((100 : Int) < n) = false := by simpa using h1
    go_enter Try.func5, Try.ntmps5
    go_wp2_with fail
    refine (works_any _).mono ?_
    rintro e w2 ⟨rfl, hb2⟩
    go_wp2_with fail
    refine (new_any (hl.keep hb2)).mono ?_
    rintro e w3 ⟨rfl, hm3, hb3⟩
    have hB3 := hb2.trans (hb3.mono hb2.size)
    have hg := hb2.size
    generalize w2.heap.size = g at hm3 hg ⊢
    go_wp2_with fail
    go_loopw [6, 7] (fun v i wr => ∃ k : Nat, k ≤ m ∧ k ≤ 60 ∧ i = .int .i64 k ∧ v = .int .i64 ((heard (lf.take k)).length : Nat) ∧ MonSt wr g l (heard (lf.take k)) ∧ Below w.heap.size w wr) (fun _ i _ => 60 - (intOf i).toNat)
    case atStart => exact ⟨0, by omega, by omega, rfl, rfl, hm3, hB3⟩
    case round =>
      obtain ⟨k, hk, hk60, rfl, rfl, hms, hbw⟩ := hrel
      have hll := heard_take lf k
      have hv := heard_v (lf.take k)
      by_cases hgo : k < m ∧ k < 60
      · obtain ⟨hkm, hlt⟩ := hgo
        have hY : Hid (isB (atD flt0 lf k).kind = true → heard (lf.take (k + 1)) = heard (lf.take k) ++ [atD flt0 lf k]) := fun h => heard_yes (by omega) h
        have hN : Hid (isB (atD flt0 lf k).kind = false → heard (lf.take (k + 1)) = heard (lf.take k)) := fun h => heard_no (by omega) h
        have hRA : Hid (0 ≤ rAct l (atD flt0 lf k).kind ↔ isB (atD flt0 lf k).kind = true) := rAct_nn l _
        generalize heard (lf.take k) = L at hms hll hv hY hN ⊢
        go_wp2_with fail
        refine (last_any hms).mono ?_
        rintro e w4 ⟨rfl, q, rfl⟩
        have hms4 : MonSt (wr.drewN q) g l L := hms
        have hB4 := below_drewN hbw q
        generalize wr.drewN q = w4 at hms4 hB4 ⊢
        clear hms hbw
        obtain ⟨b, o, rfl, hb, hc0, hc1⟩ := flt_at (hf.keep hB4) hkm
        have hbg : ¬ b = g := by
          obtain ⟨b', o', e', hb', _⟩ := hf.at_ flt0 hkm
          cases e'
          omega
        generalize atD flt0 lf k = f at hc0 hc1 hY hN hRA
        have hgs : g < w4.heap.size := Blk.lt hms4
        go_wp2_with fail
        refine wp_region_at (fun j => j = g) [11] (by kernel_rfl) (by kernel_rfl) ?_
        simp only [wpSegs, List.take, List.drop]
        repeat (go_big_quiet_step (fail))
        refine wpQuiet_nil (wpHead_want rfl (fun K' hK' => ?_))
        by_cases hi : isB f.kind = true
        · go_wp2_with fail
          refine (fault_yes (w := w4.drew) (f := f) hms4 (by omega) hi).mono ?_
          rintro e w5 ⟨rfl, hms5, hf5⟩
          replace hf5 : Fr (fun j => j = g) w4 w5 := (Fr.drew (Fr.refl _ w4)).trans hf5
          have hB5 := hB4.trans (hf5.below (fun k hk h => by omega) hB4.size)
          have hra := hRA.out.2 hi
          refine hK' _ _ rfl (fr_graft hf5) ?_
          clear hK' K'
          try simp only [wpSegs]
          repeat (go_big_quiet_step (fail))
          refine wpQuiet_nil ?_
          go_wp2_with fail
          exact ⟨⟨k + 1, by omega, by omega, by go_num, by rw [hY.out hi]; simp, by rw [hY.out hi]; exact hms5, hB5⟩, by simp [intOf]; omega⟩
        · have hi' : isB f.kind = false := by simpa using hi
          go_wp2_with fail
          refine (fault_no (w := w4.drew) (f := f) hms4 hi').mono ?_
          rintro e w5 ⟨rfl, rfl⟩
          have hf5 : Fr (fun j => j = g) w4 w4.drew := Fr.drew (Fr.refl _ w4)
          have hra : ¬ 0 ≤ rAct l f.kind := fun h => hi (hRA.out.1 h)
          have hra' : decide (0 ≤ rAct l f.kind) = false := by simpa using hra
          clear hra hi
          refine hK' _ _ rfl (fr_graft hf5) ?_
          clear hK' K'
          try simp only [wpSegs]
          repeat (go_big_quiet_step (fail))
          refine wpQuiet_nil ?_
          go_wp2_with fail
          have hms5 : MonSt w4.drew g l L := hms4
          refine (last_any hms5).mono ?_
          rintro e w5 ⟨rfl, q5, rfl⟩
          go_wp2_with fail
          exact ⟨⟨k + 1, by omega, by omega, by go_num, by rw [hN.out hi'], by rw [hN.out hi']; exact hms4, below_drewN hB4 _⟩, by simp [intOf]; omega⟩
      · have hend : (k = 60 ∧ 60 < m) ∨ m = k := by omega
        clear hgo
        generalize heard (lf.take k) = L at hms hll hv ⊢
        have HS := Lib.hid (cnt_sum hv)
        have b0 := cnt_le L 0; have b1 := cnt_le L 1; have b2 := cnt_le L 2; have b3 := cnt_le L 3; have b4 := cnt_le L 4
        have kt := total_any hms (by omega) hv
        have k0 := count_any hms hv 0; have k1 := count_any hms hv 1; have k2 := count_any hms hv 2; have k3 := count_any hms hv 3; have k4 := count_any hms hv 4
        have hsum : ((cntF L 0 : Int) + cntF L 1 + cntF L 2 + cntF L 3 + cntF L 4 == (L.length : Int)) = true := by
          have := HS.out
          simp only [beq_iff_eq]
          omega
        clear HS
        generalize cntF L 0 = a0 at hsum b0 k0; generalize cntF L 1 = a1 at hsum b1 k1; generalize cntF L 2 = a2 at hsum b2 k2; generalize cntF L 3 = a3 at hsum b3 k3; generalize cntF L 4 = a4 at hsum b4 k4
        rcases hend with ⟨rfl, hk2⟩ | rfl
        all_goals
          go_wp2_with fail
          refine kt.mono ?_
          rintro e w5 ⟨rfl, rfl⟩
          go_wp2_with fail
          refine k0.mono ?_
          rintro e w5 ⟨rfl, rfl⟩
          go_wp2_with fail
          refine k1.mono ?_
          rintro e w5 ⟨rfl, rfl⟩
          go_wp2_with fail
          refine k2.mono ?_
          rintro e w5 ⟨rfl, rfl⟩
          go_wp2_with fail
          refine k3.mono ?_
          rintro e w5 ⟨rfl, rfl⟩
          go_wp2_with fail
          refine k4.mono ?_
          rintro e w5 ⟨rfl, rfl⟩
          go_wp2_with fail
          go_ret
          exact ⟨rfl, hbw⟩
end Go.Proofs.Ytfdnfjcaaagkgaa
