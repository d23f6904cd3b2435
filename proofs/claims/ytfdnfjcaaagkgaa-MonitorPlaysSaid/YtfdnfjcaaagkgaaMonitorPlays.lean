/- The law MonitorPlays returns true whatever the input. -/
import Derived.Test.YtfdnfjcaaagkgaaMonRef
namespace Go.Proofs.Ytfdnfjcaaagkgaa
open Go.RowKit
theorem flt_info : (Try.prog.info? 34).map (fun i => (i.zero, i.size, i.bytes)) = some (some (.agg #[.int .i64 0, .int .i64 0]), 2, 16) := by kernel_rfl

theorem last_at {L : List Flt} {q : Nat} (h : L.length = q + 1) : lastK L = (atD flt0 L q).kind ∧ lastP L = (atD flt0 L q).proc := by
  have e : L.getLast? = some (atD flt0 L q) := by
    rw [List.getLast?_eq_getElem?, h, Nat.add_sub_cancel, List.getElem?_eq_getElem (by omega), atD_lt (by omega)]
  unfold lastK lastP
  rw [e]
  exact ⟨rfl, rfl⟩
set_option maxRecDepth 100000 in
set_option maxHeartbeats 4000000 in
theorem monitorPlays_law {w : World} {A : Option Addr} {n c : Nat} {l : List Int} (hl : SlI w A n c l) {B : Option Addr} {m d : Nat} {lf : List Flt} (hf : SlG w B m d 2 fltC lf) (_hok : ∀ f ∈ lf, f.ok) :
    Calls Try.prog 3 #[.slice A n c, .slice B m d] w fun e w' => e = .returned (.bool true) ∧ Below w.heap.size w w' := by
  have hn := hl.len
  have hm := hf.len
  have hfl := hf.2.1
  obtain ⟨i0, hi0, hz0, hz1, hz2⟩ := info_parts flt_info
  by_cases h1 : (100 : Int) < n
  · go_enter Try.func3, Try.ntmps3
    go_wp2_with fail
    refine (works_any _).mono ?_
    rintro e w2 ⟨rfl, hb2⟩
    go_wp2_with fail
    go_ret
    exact ⟨rfl, hb2⟩
  · have h1' : decide ((100 : Int) < n) = false := by simpa using h1
    go_enter Try.func3, Try.ntmps3
    go_wp2_with fail
    refine (works_any _).mono ?_
    rintro e w2 ⟨rfl, hb2⟩
    go_wp2_with fail
    refine (new_any (hl.keep hb2)).mono ?_
    rintro e w3 ⟨rfl, hm3, hb3⟩
    have hB3 := hb2.trans (hb3.mono hb2.size)
    have hg := hb2.size
    have hg' := hm3.lt
    generalize w2.heap.size = g at hm3 hg hg' ⊢
    have hr0 : RefSt (w3.alloc (.cells #[.slice A n c, .slice none 0 0] 29)) w3.heap.size (w3.heap.size + 1) (.slice A n c) [] := ⟨_, Blk.new w3 _ _, Nat.lt_succ_self _, by simp, World.ownsRow_nil _ _ _ _⟩
    have hm4 : MonSt (w3.alloc (.cells #[.slice A n c, .slice none 0 0] 29)) g l [] := Blk.alloc hm3 _
    have hB4 := hB3.alloc (by omega) (.cells #[.slice A n c, .slice none 0 0] 29)
    go_wp2_with fail
    generalize w3.alloc (.cells #[.slice A n c, .slice none 0 0] 29) = w4 at hr0 hm4 hB4 ⊢
    have hgr : g < w3.heap.size := hg'
    have hwr : w.heap.size ≤ w3.heap.size := by omega
    generalize w3.heap.size = r at hr0 hgr hwr ⊢
    clear hm3 hb3 hB3 hg'
    refine (last_any hm4).mono ?_
    rintro e w5 ⟨rfl, q5, rfl⟩
    have hr5 : RefSt (w4.drewN q5) r (r + 1) (.slice A n c) [] := hr0
    have hm5 : MonSt (w4.drewN q5) g l [] := hm4
    have hB5 := below_drewN hB4 q5
    rw [show lastK [] = -1 from rfl, show lastP [] = -1 from rfl]
    generalize w4.drewN q5 = w5 at hr5 hm5 hB5 ⊢
    clear hr0 hm4 hB4
    go_wp2_with fail
    go_loopw [9] (fun i wr => ∃ k : Nat, k ≤ m ∧ k ≤ 60 ∧ i = .int .i64 k ∧ MonSt wr g l (heard (lf.take k)) ∧ RefSt wr r (r + 1) (.slice A n c) (heard (lf.take k)) ∧ Below w.heap.size w wr) (fun i _ => 60 - (intOf i).toNat)
    case atStart => exact ⟨0, by omega, by omega, rfl, hm5, hr5, hB5⟩
    case round =>
      obtain ⟨k, hk, hk60, rfl, hms, hrs, hbw⟩ := hrel
      have hll := heard_take lf k
      have hv := heard_v (lf.take k)
      by_cases hgo : k < m ∧ k < 60
      · obtain ⟨hkm, hlt⟩ := hgo
        have hY : Hid (isB (atD flt0 lf k).kind = true → heard (lf.take (k + 1)) = heard (lf.take k) ++ [atD flt0 lf k]) := fun h => heard_yes (by omega) h
        have hN : Hid (isB (atD flt0 lf k).kind = false → heard (lf.take (k + 1)) = heard (lf.take k)) := fun h => heard_no (by omega) h
        have hRA : Hid (0 ≤ rAct l (atD flt0 lf k).kind ↔ isB (atD flt0 lf k).kind = true) := rAct_nn l _
        have hv2 := heard_v (lf.take (k + 1))
        have hll2 := heard_take lf (k + 1)
        generalize hL2 : heard (lf.take (k + 1)) = L2 at hv2 hll2 hY hN ⊢
        have HL2 := Lib.hid hL2
        clear hL2
        generalize heard (lf.take k) = L at hms hrs hll hv hY hN ⊢
        obtain ⟨b, o, rfl, hb, hc0, hc1⟩ := flt_at (hf.keep hbw) hkm
        have hbw0 : b < w.heap.size := by
          obtain ⟨b', o', e', hb', _⟩ := hf.at_ flt0 hkm
          cases e'
          exact hb'
        have hbg : ¬ b = g := by omega
        generalize atD flt0 lf k = f at hc0 hc1 hY hN hRA
        have hgs : g < wr.heap.size := Blk.lt hms
        go_wp2_with fail
        refine (refAct_any (hl.keep hbw) f.kind).mono ?_
        rintro e wx ⟨rfl, rfl⟩
        go_wp2_with fail
        refine wp_region_at (fun j => j = g) [11] (by kernel_rfl) (by kernel_rfl) ?_
        simp only [wpSegs, List.take, List.drop]
        repeat (go_big_quiet_step (fail))
        refine wpQuiet_nil (wpHead_want rfl (fun K' hK' => ?_))
        by_cases hi : isB f.kind = true
        case' pos =>
          go_wp2_with fail
          refine (fault_yes (w := wr.drew) (f := f) hms (by omega) hi).mono ?_
          rintro e w5 ⟨rfl, hms5, hf5⟩
          replace hf5 : Fr (fun j => j = g) wr w5 := (Fr.drew (Fr.refl _ wr)).trans hf5
          have hB5 := hbw.trans (hf5.below (fun k hk h => by omega) hbw.size)
          have hr5 := hrs.fr hf5 (fun j hj => by omega)
          have hra := hRA.out.2 hi
          have c50 : w5.cell? ⟨b, o + k * 2, none⟩ = some (.int .i64 f.kind) := (hf5.cell (p := ⟨b, o + k * 2, none⟩) hb hbg).trans hc0
          have c51 : w5.cell? ⟨b, o + k * 2 + 1, none⟩ = some (.int .i64 f.proc) := (hf5.cell (p := ⟨b, o + k * 2 + 1, none⟩) hb hbg).trans hc1
          refine hK' _ _ rfl (fr_graft hf5) ?_
          clear hK' K'
          try simp only [wpSegs]
          repeat (go_big_quiet_step (fail))
          refine wpQuiet_nil ?_
          obtain ⟨v5, hr51, hr52, hr53, hr54⟩ := hr5
          have cl5 : w5.cell? ⟨r, 1, none⟩ = some v5 := hr51.cell 1
          have hrl5 := hr51.lt
          have hvb : ¬ v5.ownBlock = some b := fun h => own_ne hr54 (show b < r + 1 by omega) h.symm
          have hvr : ¬ v5.ownBlock = some r := fun h => own_ne hr54 (show r < r + 1 by omega) h.symm
          have hvg : ¬ v5.ownBlock = some g := fun h => own_ne hr54 (show g < r + 1 by omega) h.symm
          have hb5 : b < w5.heap.size := by have := hB5.size; omega
          go_wp2_with fail
          refine wp_region_last (fun j => v5.ownBlock = some j) [9, 0, 2] (by kernel_rfl) (by kernel_rfl) ?_
          simp only [wpSegs, List.take, List.drop]
          repeat (go_big_quiet_step (fail))
          refine wpQuiet_nil (wpHead_want rfl (fun K' hK' => ?_))
          go_wp2_with fail
          refine hK' _ _ rfl (fr_graft (((Fr.refl _ w5).drew).alloc _)) ?_
          clear hK' K'
          try simp only [List.take, List.drop]
          repeat (go_big_quiet_step (fail))
          refine wpQuiet_nil (wpHead_want rfl (fun K' hK' => ?_))
          refine wp_app_blk _ _ _ 23 (by rfl) (r + 1) 34 i0 _ 2 16 Try.underlying23 hi0 hz0 hz1 hz2 rfl (by decide) (by decide) v5 L.length _ (by rfl) (hr54.alloc _) w5.heap.size #[.int .i64 f.kind, .int .i64 f.proc] rfl (by simp [Value.oneCell']) (Blk.new w5 _ _) (by rfl) (by omega) (by simp; omega) ?_
          intro gg cap w6 hown6 hf6 hat6
          replace hf6 : Fr (fun j => v5.ownBlock = some j) w5 w6 := (((Fr.refl _ w5).drew).alloc _).trans hf6
          refine hK' _ _ rfl (fr_graft hf6) ?_
          clear hK' K'
          try simp only [List.take, List.drop]
          simp only [Act.put, List.setIfInBounds_toArray, List.set_cons_succ, List.set_cons_zero]
          repeat (go_big_quiet_step (fail))
          have hr61 := hr51.fr hf6 hvr
          have cl6 : w6.cell? ⟨r, 1, none⟩ = some v5 := hr61.cell 1
          have fz6 := hr61.frozen 1
          have hrl6 := hr61.lt
          refine wpQuiet_nil (wpHead_last rfl (fun K' hK' => ?_))
          go_wp2_with fail
          refine hK' _ _ rfl ?_
          clear hK' K'
          try simp only [wpSegs]
          refine wpQuiet_nil ?_
          have hfS : Fr (fun j => j = r) w6 (w6.setCell ⟨r, 1, none⟩ (.slice (some ⟨gg, 0, none⟩) (L.length + 1) cap)) := Fr.setCell (S := fun j => j = r) (Fr.refl _ w6) (p := ⟨r, 1, none⟩) (fun _ => rfl) _
          have hms7 : MonSt (w6.setCell ⟨r, 1, none⟩ (.slice (some ⟨gg, 0, none⟩) (L.length + 1) cap)) g l L2 := by
            rw [hY.out hi]
            exact (hms5.fr hf6 hvg).fr hfS (by omega)
          have hr7 : RefSt (w6.setCell ⟨r, 1, none⟩ (.slice (some ⟨gg, 0, none⟩) (L.length + 1) cap)) r (r + 1) (.slice A n c) L2 := by
            rw [hY.out hi]
            refine ⟨_, hr61.set_ 1 _, hr52, Nat.le_trans hr53 (Nat.le_trans hf6.size hfS.size), ?_⟩
            rw [List.length_append, List.length_singleton, List.flatMap_append]
            exact own_far hown6 hfS (fun k hk => by omega)
          have hB7 := (hB5.trans (hf6.below (fun j hj h => own_ne hr54 (show j < r + 1 by omega) h.symm) hB5.size)).trans (hfS.below (fun j hj h => by omega) (by have := hB5.size; have := hf6.size; omega))
          generalize w6.setCell ⟨r, 1, none⟩ (.slice (some ⟨gg, 0, none⟩) (L.length + 1) cap) = w7 at hms7 hr7 hB7 ⊢
          clear hfS hr61 cl6 fz6 hrl6 hf6 hown6 hat6 hr51 hr54 hr53 hr52 cl5 hrl5 hvb hvr hvg hb5 c50 c51 hms5 hf5 hB5
          go_wp2_with fail
        case' neg =>
          have hi' : isB f.kind = false := by simpa using hi
          go_wp2_with fail
          refine (fault_no (w := wr.drew) (f := f) hms hi').mono ?_
          rintro e w5 ⟨rfl, rfl⟩
          have hf5 : Fr (fun j => j = g) wr wr.drew := Fr.drew (Fr.refl _ wr)
          have hra : ¬ 0 ≤ rAct l f.kind := fun h => hi (hRA.out.1 h)
          have hra' : decide (0 ≤ rAct l f.kind) = false := by simpa using hra
          clear hra hi
          refine hK' _ _ rfl (fr_graft hf5) ?_
          clear hK' K'
          try simp only [wpSegs]
          repeat (go_big_quiet_step (fail))
          refine wpQuiet_nil ?_
          have hms7 : MonSt wr.drew g l L2 := by rw [hN.out hi']; exact hms
          have hr7 : RefSt wr.drew r (r + 1) (.slice A n c) L2 := by rw [hN.out hi']; exact hrs
          have hB7 := hbw.drew
          generalize wr.drew = w7 at hms7 hr7 hB7 ⊢
          go_wp2_with fail
        all_goals
          clear hc0 hc1 hbw hms hrs hY hN hRA
          go_loop [11] (fun i => ∃ j : Int, -1 ≤ j ∧ j ≤ 6 ∧ i = .int .i64 j) (fun i => (6 - intOf i).toNat)
          case atStart => exact ⟨-1, by omega, by omega, rfl⟩
          case round =>
            obtain ⟨j, hj1, hj6, rfl⟩ := hrel
            by_cases hlt6 : j < 6
            · go_wp2_with fail
              refine (count_any hms7 hv2 j).mono ?_
              rintro e w8 ⟨rfl, rfl⟩
              go_wp2_with fail
              refine (refCount_any hr7 (by omega) j).mono ?_
              rintro e w8 ⟨rfl, rfl⟩
              go_wp2_with fail
              exact ⟨⟨j + 1, by omega, by omega, rfl⟩, by simp [intOf]; omega⟩
            · obtain rfl : j = 6 := by omega
              go_wp2_with fail
              refine (last_any hms7).mono ?_
              rintro e w8 ⟨rfl, q8, rfl⟩
              have hms8 : MonSt (w7.drewN q8) g l L2 := hms7
              have hr8 : RefSt (w7.drewN q8) r (r + 1) (.slice A n c) L2 := hr7
              have hB8 := below_drewN hB7 q8
              generalize w7.drewN q8 = w8 at hms8 hr8 hB8 ⊢
              clear hms7 hr7 hB7
              have kt := fun q => total_any (w := w8.drewN q) (g := g) (l := l) hms8 (by omega) hv2
              have hr9 := hr8
              obtain ⟨v8, h81, h82, h83, h84⟩ := hr9
              obtain ⟨A8, c8, rfl, hs8, -⟩ := SlG.of_own h84 (fun _ _ => rfl) rfl
              have cl8 : w8.cell? ⟨r, 1, none⟩ = some (.slice A8 L2.length c8) := h81.cell 1
              have hrl8 := h81.lt
              clear h84
              have hlast := fun q => last_at (L := L2) (q := q)
              generalize hp : L2.length = p at cl8 hs8 kt hlast hll2
              have HP := Lib.hid hp
              clear hp
              by_cases hp0 : p = 0
              · subst hp0
                clear hlast
                go_wp2_with fail
                go_quiet ((go_at_call 14; exact Calls.quiet_of_same ((kt _).mono fun _ _ h => ⟨h.1, h.2.symm⟩)))
                go_wp2_with fail
                exact ⟨⟨k + 1, by omega, by omega, by go_num, by rw [HL2.out]; exact hms8, by rw [HL2.out]; exact hr8, below_drewN hB8 _⟩, by simp [intOf]; omega⟩
              · obtain ⟨q, rfl⟩ : ∃ q, p = q + 1 := ⟨p - 1, by omega⟩
                obtain ⟨hk1, hk2⟩ := hlast q rfl
                obtain ⟨b8, o8, rfl, hb8, ck0, ck1⟩ := flt_at hs8 (show q < q + 1 by omega)
                rw [← hk1] at ck0
                rw [← hk2] at ck1
                clear hk1 hk2 hlast hp0
                have hw1 : IntKind.i64.wrap ((q : Int) + 1 - 1) = q := by rw [Int.add_sub_cancel]; exact IntWalk.i64_in _ (by omega)
                go_wp2_with fail
                go_quiet ((go_at_call 14; exact Calls.quiet_of_same ((kt _).mono fun _ _ h => ⟨h.1, h.2.symm⟩)))
                go_wp2_with fail
                exact ⟨⟨k + 1, by omega, by omega, by go_num, by rw [HL2.out]; exact hms8, by rw [HL2.out]; exact hr8, below_drewN hB8 _⟩, by simp [intOf]; omega⟩
      · have hend : (k = 60 ∧ 60 < m) ∨ m = k := by omega
        clear hgo
        rcases hend with ⟨rfl, hk2⟩ | rfl
        all_goals
          go_wp2_with fail
          go_ret
          exact ⟨rfl, hbw⟩
end Go.Proofs.Ytfdnfjcaaagkgaa
