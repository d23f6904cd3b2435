/- The law MonitorActs returns true whatever the input. -/
import Derived.Test.YtfdnfjcaaagkgaaMonitorSums
namespace Go.Proofs.Ytfdnfjcaaagkgaa
open Go.RowKit
/-- a monitor that hears whatever: it tells what its table says. -/
theorem fault_any {w : World} {g : Nat} {l : List Int} {L : List Flt} (h : MonSt w g l L) (hL : L.length ≤ 1000) (f : Flt) :
    Calls Try.prog 11 #[.pointer (some ⟨g, 0, none⟩), .int .i64 f.kind, .int .i64 f.proc] w fun e w' => e = .returned (.int .i64 (rAct l f.kind)) ∧ MonSt w' g l (L ++ heard [f]) ∧ Fr (fun k => k = g) w w' := by
  by_cases hi : isB f.kind = true
  · refine (fault_yes h hL hi).mono fun e w' ⟨h1, h2, h3⟩ => ⟨h1, ?_, h3⟩
    rw [show heard [f] = [f] by simp [heard, hi]]
    exact h2
  · refine (fault_no h (by simpa using hi)).mono fun e w' ⟨h1, h2⟩ => ?_
    subst h2
    refine ⟨h1, ?_, Fr.refl _ _⟩
    rw [show heard [f] = [] by simp [heard, hi], List.append_nil]
    exact h
theorem heard_app (l : List Flt) {k : Nat} (hk : k < l.length) : heard (l.take (k + 1)) = heard (l.take k) ++ heard [atD flt0 l k] := by
  rw [take_snocG flt0 l k hk]
  unfold heard
  rw [List.filter_append]

set_option maxRecDepth 100000 in
set_option maxHeartbeats 2000000 in
theorem monitorActs_law {w : World} {A : Option Addr} {n c : Nat} {l : List Int} (hl : SlI w A n c l) {B : Option Addr} {m d : Nat} {lf : List Flt} (hf : SlG w B m d 2 fltC lf) (f0 : Flt) :
    Calls Try.prog 4 #[.slice A n c, .slice B m d, .agg #[.int .i64 f0.kind, .int .i64 f0.proc]] w fun e w' => e = .returned (.bool true) ∧ Below w.heap.size w w' := by
  have hn := hl.len
  have hm := hf.len
  have hfl := hf.2.1
  have bk := Blk.new w 34 #[.int .i64 f0.kind, .int .i64 f0.proc]
  have hb0 := (Below.refl w.heap.size w).alloc (Nat.le_refl _) (.cells #[.int .i64 f0.kind, .int .i64 f0.proc] 34)
  have hz0 : w.heap.size < (w.alloc (.cells #[.int .i64 f0.kind, .int .i64 f0.proc] 34)).heap.size := by simp
  by_cases h1 : (100 : Int) < n
  · go_enter Try.func4, Try.ntmps4
    go_wp2_with fail
    refine (works_any _).mono ?_
    rintro e w2 ⟨rfl, hb2⟩
    go_wp2_with fail
    go_ret
    exact ⟨rfl, hb0.trans (hb2.mono hb0.size)⟩
  · have h1' : decide ((100 : Int) < n) = false := by simpa using h1
    go_enter Try.func4, Try.ntmps4
    go_wp2_with fail
    generalize w.alloc (.cells #[.int .i64 f0.kind, .int .i64 f0.proc] 34) = w0 at bk hb0 hz0 ⊢
    refine (works_any _).mono ?_
    rintro e w2 ⟨rfl, hb2⟩
    have hB2 := hb0.trans (hb2.mono hb0.size)
    have bk2 := bk.keep hb2
    go_wp2_with fail
    refine (new_any (hl.keep hB2)).mono ?_
    rintro e w3 ⟨rfl, hm3, hb3⟩
    have hB3 := hB2.trans (hb3.mono hB2.size)
    have bk3 := bk2.keep hb3
    have hg1 := bk2.lt
    have hg1' := hm3.lt
    generalize w2.heap.size = g1 at hm3 hg1 hg1' ⊢
    go_wp2_with fail
    refine (new_any (hl.keep hB3)).mono ?_
    rintro e w4 ⟨rfl, hm4, hb4⟩
    have hB4 := hB3.trans (hb4.mono hB3.size)
    have bk4 := bk3.keep hb4
    have hm4' := hm3.keep hb4
    generalize w3.heap.size = g2 at hm4 hg1' ⊢
    clear hb3 hb4 hm3 bk3 hB3
    go_wp2_with fail
    go_loopw [9] (fun i wr => ∃ k : Nat, k ≤ m ∧ k ≤ 60 ∧ i = .int .i64 k ∧ MonSt wr g1 l (heard (lf.take k)) ∧ MonSt wr g2 l [] ∧ Blk wr w.heap.size 34 #[.int .i64 f0.kind, .int .i64 f0.proc] ∧ Below w.heap.size w wr) (fun i _ => 60 - (intOf i).toNat)
    case atStart => exact ⟨0, by omega, by omega, rfl, hm4', hm4, bk4, hB4⟩
    case round =>
      obtain ⟨k, hk, hk60, rfl, hms, hms2, hbk, hbw⟩ := hrel
      have hll := heard_take lf k
      by_cases hgo : k < m ∧ k < 60
      · obtain ⟨hkm, hlt⟩ := hgo
        have hY : Hid (heard (lf.take (k + 1)) = heard (lf.take k) ++ heard [atD flt0 lf k]) := heard_app lf (by omega)
        generalize heard (lf.take k) = L at hms hll hY ⊢
        obtain ⟨b, o, rfl, hb, hc0, hc1⟩ := flt_at (hf.keep hbw) hkm
        have hbg : ¬ b = g1 := by
          obtain ⟨b', o', e', hb', _⟩ := hf.at_ flt0 hkm
          cases e'
          omega
        generalize atD flt0 lf k = f at hc0 hc1 hY
        have hgs : g1 < wr.heap.size := Blk.lt hms
        go_wp2_with fail
        refine wp_region_at (fun j => j = g1) [11] (by kernel_rfl) (by kernel_rfl) ?_
        simp only [wpSegs, List.take, List.drop]
        repeat (go_big_quiet_step (fail))
        refine wpQuiet_nil (wpHead_want rfl (fun K' hK' => ?_))
        go_wp2_with fail
        refine (fault_any (w := wr.drew) hms (by omega) f).mono ?_
        rintro e w5 ⟨rfl, hms5, hf5⟩
        replace hf5 : Fr (fun j => j = g1) wr w5 := (Fr.drew (Fr.refl _ wr)).trans hf5
        have hB5 := hbw.trans (hf5.below (fun k hk h => by omega) hbw.size)
        refine hK' _ _ rfl (fr_graft hf5) ?_
        clear hK' K'
        try simp only [wpSegs]
        repeat (go_big_quiet_step (fail))
        refine wpQuiet_nil ?_
        go_wp2_with fail
        exact ⟨⟨k + 1, by omega, by omega, by go_num, by rw [hY.out]; exact hms5, hms2.fr hf5 (by omega), hbk.fr hf5 (by omega), hB5⟩, by simp [intOf]; omega⟩
      · have hend : (k = 60 ∧ 60 < m) ∨ m = k := by omega
        clear hgo
        generalize heard (lf.take k) = L at hms hll ⊢
        have hc0 : wr.cell? ⟨w.heap.size, 0, none⟩ = some (.int .i64 f0.kind) := hbk.cell 0
        have hc1 : wr.cell? ⟨w.heap.size, 1, none⟩ = some (.int .i64 f0.proc) := hbk.cell 1
        have hls := hbk.lt
        have hgs1 : g1 < wr.heap.size := Blk.lt hms
        have hgs2 : g2 < wr.heap.size := Blk.lt hms2
        have hne1 : ¬ w.heap.size = g1 := by omega
        have hne2 : ¬ w.heap.size = g2 := by omega
        rcases hend with ⟨rfl, hk2⟩ | rfl
        all_goals
          go_wp2_with fail
          refine wp_region_at (fun j => j = g1 ∨ j = g2) [5, 3] (by kernel_rfl) (by kernel_rfl) ?_
          simp only [wpSegs, List.take, List.drop]
          repeat (go_big_quiet_step (fail))
          refine wpQuiet_nil (wpHead_want rfl (fun K' hK' => ?_))
          go_wp2_with fail
          refine (fault_any (w := wr.drew) hms (by omega) f0).mono ?_
          rintro e w5 ⟨rfl, hms5, hf5⟩
          replace hf5 : Fr (fun j => j = g1) wr w5 := (Fr.drew (Fr.refl _ wr)).trans hf5
          have hms25 := hms2.fr hf5 (by omega)
          have hB5 := hbw.trans (hf5.below (fun k hk h => by omega) hbw.size)
          refine hK' _ _ rfl (fr_graft (hf5.mono (fun j _ h => .inl h))) ?_
          clear hK' K'
          try simp only [wpSegs, List.take, List.drop]
          repeat (go_big_quiet_step (fail))
          refine wpQuiet_nil (wpHead_want rfl (fun K' hK' => ?_))
          go_wp2_with fail
          refine (fault_any (w := w5) (f := ⟨f0.kind, 0⟩) hms25 (by decide)).mono ?_
          rintro e w6 ⟨rfl, hms6, hf6⟩
          have hB6 := hB5.trans (hf6.below (fun k hk h => by omega) hB5.size)
          refine hK' _ _ rfl (fr_graft ((hf5.mono (fun j _ h => .inl h)).trans (hf6.mono (fun j _ h => .inr h)))) ?_
          clear hK' K'
          try simp only [wpSegs]
          repeat (go_big_quiet_step (fail))
          refine wpQuiet_nil ?_
          go_wp2_with fail
          go_ret
          exact ⟨rfl, hB6⟩
end Go.Proofs.Ytfdnfjcaaagkgaa
