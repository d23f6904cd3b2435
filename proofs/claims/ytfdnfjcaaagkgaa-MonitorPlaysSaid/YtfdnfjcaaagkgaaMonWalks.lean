/- The walks of package monitor. -/
import Derived.Test.YtfdnfjcaaagkgaaMix
import Derived.Test.YtfdnfjcaaagkgaaMonSpec
import Derived.Test.YtfdnfjcaaagkgaaProg
import Derived.StillTailTactics
namespace Go.Proofs.Ytfdnfjcaaagkgaa
open Go.RowKit
theorem is_any {w : World} {n : Int} : Calls Try.prog 19 #[.int .i64 n] w fun e w' => e = .returned (.bool (isB n)) ∧ w = w' := by
  by_cases h : 0 ≤ n
  · by_cases h2 : n < 5
    · have hb := Lib.hid (isB_yes h h2)
      go_enter Try.func19, Try.ntmps19
      go_wp2_with fail
      go_ret
      exact ⟨by rw [hb.out]; rfl, rfl⟩
    · have hb := Lib.hid (isB_no (n := n) (by omega))
      have h2' : decide (n < 5) = false := by simpa using h2
      go_enter Try.func19, Try.ntmps19
      go_wp2_with fail
      go_ret
      exact ⟨by rw [hb.out]; rfl, rfl⟩
  · have hb := Lib.hid (isB_no (n := n) (by omega))
    have h2' : decide (0 ≤ n) = false := by simpa using h
    go_enter Try.func19, Try.ntmps19
    go_wp2_with fail
    go_ret
    exact ⟨by rw [hb.out]; rfl, rfl⟩
/-- a monitor of acts that heard L -/
def MonSt (w : World) (g : Nat) (l : List Int) (L : List Flt) : Prop := Blk w g 44 (mc (actN l) (cntN L) (lastK L) (lastP L))
theorem MonSt.keep {w w' : World} {g : Nat} {l : List Int} {L : List Flt} (h : MonSt w g l L) (hb : Below w.heap.size w w') : MonSt w' g l L := Blk.keep h hb
theorem MonSt.fr {S : Nat → Prop} {w w' : World} {g : Nat} {l : List Int} {L : List Flt} (h : MonSt w g l L) (hb : Fr S w w') (hg : ¬ S g) : MonSt w' g l L := Blk.fr h hb hg

set_option maxRecDepth 100000 in
theorem new_any {w : World} {A : Option Addr} {n c : Nat} {l : List Int} (hl : SlI w A n c l) :
    Calls Try.prog 8 #[.slice A n c] w fun e w' => e = .returned (.pointer (some ⟨w.heap.size, 0, none⟩)) ∧ MonSt w' w.heap.size l [] ∧ Below w.heap.size w w' := by
  have hn := hl.len
  have hll := hl.2.1
  have hb0 := (Below.refl w.heap.size w).alloc (Nat.le_refl _) (.cells #[.int .i64 0, .int .i64 0, .int .i64 0, .int .i64 0, .int .i64 0, .int .i64 0, .int .i64 0, .int .i64 0, .int .i64 0, .int .i64 0, .int .i64 (-1), .int .i64 (-1), .bool true] 44)
  have hm0 : Blk (w.alloc (.cells #[.int .i64 0, .int .i64 0, .int .i64 0, .int .i64 0, .int .i64 0, .int .i64 0, .int .i64 0, .int .i64 0, .int .i64 0, .int .i64 0, .int .i64 (-1), .int .i64 (-1), .bool true] 44)) w.heap.size 44 (mc (upTo (actN l) 0) (cntN []) (-1) (-1)) := Blk.new w 44 #[.int .i64 0, .int .i64 0, .int .i64 0, .int .i64 0, .int .i64 0, .int .i64 0, .int .i64 0, .int .i64 0, .int .i64 0, .int .i64 0, .int .i64 (-1), .int .i64 (-1), .bool true]
  go_enter Try.func8, Try.ntmps8
  go_wp2_with fail
  generalize w.alloc (.cells #[.int .i64 0, .int .i64 0, .int .i64 0, .int .i64 0, .int .i64 0, .int .i64 0, .int .i64 0, .int .i64 0, .int .i64 0, .int .i64 0, .int .i64 (-1), .int .i64 (-1), .bool true] 44) = w0 at hb0 hm0 ⊢
  go_loopw [7] (fun i wr => ∃ k : Nat, k ≤ 5 ∧ i = .int .i64 k ∧ Blk wr w.heap.size 44 (mc (upTo (actN l) k) (cntN []) (-1) (-1)) ∧ Below w.heap.size w wr) (fun i _ => 5 - (intOf i).toNat)
  case atStart => exact ⟨0, by omega, rfl, hm0, hb0⟩
  case round =>
    obtain ⟨k, hk, rfl, hm, hbw⟩ := hrel
    by_cases h5 : k < 5
    · by_cases hkn : k < n
      · obtain ⟨b, o, rfl, hb, hck⟩ := (hl.keep hbw).at_ hkn
        by_cases hi : isB (at0 l k) = true
        · have HA : Hid (actN l k = at0 l k) := by unfold Hid actN; rw [if_pos ⟨by omega, hi⟩]
          have hfz := hm.frozen (k * 2)
          have hcc : wr.cell? ⟨w.heap.size, k * 2, none⟩ = some (.int .i64 (upTo (actN l) k k)) := (hm.cell (k * 2)).trans (mc_act _ _ _ _ h5)
          have hgs := hm.lt
          have hkb : (k : Int) < 5 := by omega
          go_wp2_with fail
          refine is_any.mono ?_
          rintro e w2 ⟨rfl, rfl⟩
          go_wp2_with fail
          go_still_tail 10, (by kernel_rfl)
          go_wp2_with fail
          refine ⟨⟨k + 1, by omega, by go_num, ?_, ?_⟩, by simp [intOf]; omega⟩
          · have he := mc_set_act (actN l) (cntN []) (-1) (-1) h5
            rw [HA.out] at he
            rw [← he]
            exact hm.set_ _ _
          · exact (hbw.setCell (Nat.le_refl _) _).drew
        · have hi' : isB (at0 l k) = false := by simpa using hi
          have HA : Hid (actN l k = 0) := by unfold Hid actN; rw [if_neg (fun h => hi h.2)]
          clear hi
          go_wp2_with fail
          refine is_any.mono ?_
          rintro e w2 ⟨rfl, rfl⟩
          go_wp2_with fail
          refine ⟨⟨k + 1, by omega, by go_num, ?_, ?_⟩, by simp [intOf]; omega⟩
          · rw [← mc_skip _ _ _ _ h5 HA.out]
            exact hm
          · exact hbw
      · have hkn' : decide ((k : Int) < n) = false := by simpa using hkn
        have HA : Hid (actN l k = 0) := by unfold Hid actN; rw [if_neg (fun h => hkn (by omega))]
        go_wp2_with fail
        refine ⟨⟨k + 1, by omega, by go_num, ?_, ?_⟩, by simp [intOf]; omega⟩
        · rw [← mc_skip _ _ _ _ h5 HA.out]
          exact hm
        · exact hbw
    · obtain rfl : k = 5 := by omega
      go_wp2_with fail
      go_ret
      exact ⟨rfl, hm, hbw⟩
theorem dead_any {w : World} {g : Nat} {l : List Int} {L : List Flt} (h : MonSt w g l L) : Calls Try.prog 20 #[.pointer (some ⟨g, 0, none⟩)] w fun e w' => e = .returned (.bool false) ∧ w = w' := by
  have c12 : w.cell? ⟨g, 12, none⟩ = some (.bool true) := h.cell 12
  go_enter Try.func20, Try.ntmps20
  go_wp2_with fail
  go_ret
  exact ⟨rfl, rfl⟩
theorem dead_nil {w : World} : Calls Try.prog 20 #[.pointer none] w fun e w' => e = .returned (.bool true) ∧ w = w' := by
  go_enter Try.func20, Try.ntmps20
  go_wp2_with fail
  go_ret
  exact ⟨rfl, rfl⟩
theorem dead_zero {w : World} {g : Nat} (c12 : w.cell? ⟨g, 12, none⟩ = some (.bool false)) : Calls Try.prog 20 #[.pointer (some ⟨g, 0, none⟩)] w fun e w' => e = .returned (.bool true) ∧ w = w' := by
  go_enter Try.func20, Try.ntmps20
  go_wp2_with fail
  go_ret
  exact ⟨rfl, rfl⟩
/-- a monitor that is not there, or that no call made -/
def Gone (w : World) (p : Option Addr) : Prop := p = none ∨ ∃ g, p = some ⟨g, 0, none⟩ ∧ w.cell? ⟨g, 12, none⟩ = some (.bool false)
theorem dead_gone {w : World} {p : Option Addr} (h : Gone w p) : Calls Try.prog 20 #[.pointer p] w fun e w' => e = .returned (.bool true) ∧ w = w' := by
  rcases h with rfl | ⟨g, rfl, c⟩
  · exact dead_nil
  · exact dead_zero c

set_option maxRecDepth 100000 in
set_option maxHeartbeats 1000000 in
theorem fault_yes {w : World} {g : Nat} {l : List Int} {L : List Flt} (h : MonSt w g l L) (hL : L.length ≤ 1000) {f : Flt} (hk : isB f.kind = true) :
    Calls Try.prog 11 #[.pointer (some ⟨g, 0, none⟩), .int .i64 f.kind, .int .i64 f.proc] w fun e w' => e = .returned (.int .i64 (rAct l f.kind)) ∧ MonSt w' g l (L ++ [f]) ∧ Fr (fun k => k = g) w w' := by
  obtain ⟨kd, pr⟩ := f
  have hk5 := isB_iff.1 hk
  obtain ⟨k, rfl⟩ := Int.eq_ofNat_of_zero_le hk5.1
  have h5 : k < 5 := by have := hk5.2; simp only at this; omega
  have HR : Hid (rAct l (k : Int) = actN l k) := rAct_yes l k h5
  have HC : Hid (mc (actN l) (inc (cntN L) k) (k : Int) pr = mc (actN l) (cntN (L ++ [⟨k, pr⟩])) (lastK (L ++ [⟨k, pr⟩])) (lastP (L ++ [⟨k, pr⟩]))) := by
    unfold Hid
    rw [lastK_snoc, lastP_snoc]
    exact mc_congr fun j _ => inc_cnt L ⟨k, pr⟩ rfl j
  have ca : w.cell? ⟨g, k * 2, none⟩ = some (.int .i64 (actN l k)) := (h.cell (k * 2)).trans (mc_act _ _ _ _ h5)
  have cc : w.cell? ⟨g, k * 2 + 1, none⟩ = some (.int .i64 (cntN L k)) := (h.cell (k * 2 + 1)).trans (mc_cnt _ _ _ _ h5)
  have hcn : 0 ≤ cntN L k ∧ cntN L k ≤ 1000 := by unfold cntN; have := cnt_le L k; omega
  have hset := mc_set_cnt (actN l) (cntN L) (lastK L) (lastP L) h5 k pr
  have HS := Lib.hid hset
  clear hset
  generalize cntN L k = cn at cc hcn HS
  obtain ⟨hcn1, hcn2⟩ := hcn
  have hd := dead_any h
  have fz : ∀ i, w.frozen? ⟨g, i, none⟩ = false := Blk.frozen h
  have hgl : g < w.heap.size := Blk.lt h
  have hkb : (k : Int) < 5 := by omega
  have c10 : w.cell? ⟨g, 10, none⟩ = some (.int .i64 (lastK L)) := h.cell 10
  have c11 : w.cell? ⟨g, 11, none⟩ = some (.int .i64 (lastP L)) := h.cell 11
  have hne1 : ¬ k * 2 = 10 := by omega
  have hne2 : ¬ k * 2 = 11 := by omega
  have hne3 : ¬ k * 2 + 1 = 10 := by omega
  have hne4 : ¬ k * 2 + 1 = 11 := by omega
  have hne5 : ¬ 10 = k * 2 := by omega
  have hne6 : ¬ 11 = k * 2 := by omega
  have hne7 : ¬ 10 = k * 2 + 1 := by omega
  have hne8 : ¬ 11 = k * 2 + 1 := by omega
  show Calls Try.prog _ #[.pointer (some ⟨g, 0, none⟩), .int .i64 (k : Int), .int .i64 pr] w _
  go_enter Try.func11, Try.ntmps11
  go_wp2_with fail
  refine hd.mono ?_
  rintro e w2 ⟨rfl, rfl⟩
  go_wp2_with fail
  refine is_any.mono ?_
  rintro e w2 ⟨rfl, rfl⟩
  rw [show isB (k : Int) = true from hk]
  go_wp2_with fail
  go_still_tail 12, (by kernel_rfl)
  go_wp2_with fail
  go_ret
  refine ⟨by rw [HR.out]; rfl, ?_, ?_⟩
  · show Blk _ g _ _
    rw [← HC.out, ← HS.out]
    exact ((Blk.set_ h _ _).set_ 10 _).set_ 11 _
  · exact ((((Fr.refl (fun k => k = g) w).setCell (p := ⟨g, k * 2 + 1, none⟩) (fun _ => rfl) _).setCell (p := ⟨g, 10, none⟩) (fun _ => rfl) _).setCell (p := ⟨g, 11, none⟩) (fun _ => rfl) _).drew
theorem fault_no {w : World} {g : Nat} {l : List Int} {L : List Flt} (h : MonSt w g l L) {f : Flt} (hk : isB f.kind = false) :
    Calls Try.prog 11 #[.pointer (some ⟨g, 0, none⟩), .int .i64 f.kind, .int .i64 f.proc] w fun e w' => e = .returned (.int .i64 (rAct l f.kind)) ∧ w = w' := by
  have HR := Lib.hid (rAct_no l hk)
  have hd := dead_any h
  go_enter Try.func11, Try.ntmps11
  go_wp2_with fail
  refine hd.mono ?_
  rintro e w2 ⟨rfl, rfl⟩
  go_wp2_with fail
  refine is_any.mono ?_
  rintro e w2 ⟨rfl, rfl⟩
  rw [hk]
  go_wp2_with fail
  go_ret
  exact ⟨by rw [HR.out]; rfl, rfl⟩
theorem fault_gone {w : World} {p : Option Addr} (h : Gone w p) (x y : Int) :
    Calls Try.prog 11 #[.pointer p, .int .i64 x, .int .i64 y] w fun e w' => e = .returned (.int .i64 (-1)) ∧ w = w' := by
  have hd := dead_gone h
  go_enter Try.func11, Try.ntmps11
  go_wp2_with fail
  refine hd.mono ?_
  rintro e w2 ⟨rfl, rfl⟩
  go_wp2_with fail
  go_ret
  exact ⟨rfl, rfl⟩
theorem count_any {w : World} {g : Nat} {l : List Int} {L : List Flt} (h : MonSt w g l L) (hv : ∀ f ∈ L, isB f.kind = true) (j : Int) :
    Calls Try.prog 12 #[.pointer (some ⟨g, 0, none⟩), .int .i64 j] w fun e w' => e = .returned (.int .i64 (cntF L j)) ∧ w = w' := by
  have hd := dead_any h
  by_cases hj : isB j = true
  · have hk5 := isB_iff.1 hj
    obtain ⟨k, rfl⟩ := Int.eq_ofNat_of_zero_le hk5.1
    have h5 : k < 5 := by have := hk5.2; omega
    have cc : w.cell? ⟨g, k * 2 + 1, none⟩ = some (.int .i64 (cntF L k)) := (h.cell (k * 2 + 1)).trans (mc_cnt _ _ _ _ h5)
    have hgl : g < w.heap.size := Blk.lt h
    have hkb : (k : Int) < 5 := by omega
    go_enter Try.func12, Try.ntmps12
    go_wp2_with fail
    refine hd.mono ?_
    rintro e w2 ⟨rfl, rfl⟩
    go_wp2_with fail
    refine is_any.mono ?_
    rintro e w2 ⟨rfl, rfl⟩
    rw [hj]
    go_wp2_with fail
    go_ret
    exact ⟨rfl, rfl⟩
  · have hj' : isB j = false := by simpa using hj
    have H0 : Hid (cntF L j = 0) := by
      unfold Hid cntF
      rw [List.length_eq_zero_iff, List.filter_eq_nil_iff]
      intro f hf he
      rw [beq_iff_eq] at he
      rw [← he] at hj'
      rw [hv f hf] at hj'
      cases hj'
    clear hj
    go_enter Try.func12, Try.ntmps12
    go_wp2_with fail
    refine hd.mono ?_
    rintro e w2 ⟨rfl, rfl⟩
    go_wp2_with fail
    refine is_any.mono ?_
    rintro e w2 ⟨rfl, rfl⟩
    rw [hj']
    go_wp2_with fail
    go_ret
    exact ⟨by rw [H0.out]; rfl, rfl⟩
theorem count_gone {w : World} {p : Option Addr} (h : Gone w p) (x : Int) :
    Calls Try.prog 12 #[.pointer p, .int .i64 x] w fun e w' => e = .returned (.int .i64 0) ∧ w = w' := by
  have hd := dead_gone h
  go_enter Try.func12, Try.ntmps12
  go_wp2_with fail
  refine hd.mono ?_
  rintro e w2 ⟨rfl, rfl⟩
  go_wp2_with fail
  go_ret
  exact ⟨rfl, rfl⟩
theorem last_any {w : World} {g : Nat} {l : List Int} {L : List Flt} (h : MonSt w g l L) :
    Calls Try.prog 9 #[.pointer (some ⟨g, 0, none⟩)] w fun e w' => e = .returned (.tuple #[.int .i64 (lastK L), .int .i64 (lastP L)]) ∧ ∃ q, w' = w.drewN q := by
  have hd := dead_any h
  have c10 : w.cell? ⟨g, 10, none⟩ = some (.int .i64 (lastK L)) := h.cell 10
  have c11 : w.cell? ⟨g, 11, none⟩ = some (.int .i64 (lastP L)) := h.cell 11
  go_enter Try.func9, Try.ntmps9
  go_wp2_with fail
  refine hd.mono ?_
  rintro e w2 ⟨rfl, rfl⟩
  go_wp2_with fail
  go_quiet (fail)
  go_wp2_with fail
  go_ret2
  exact ⟨rfl, _, rfl⟩
theorem last_gone {w : World} {p : Option Addr} (h : Gone w p) :
    Calls Try.prog 9 #[.pointer p] w fun e w' => e = .returned (.tuple #[.int .i64 (-1), .int .i64 (-1)]) ∧ w = w' := by
  have hd := dead_gone h
  go_enter Try.func9, Try.ntmps9
  go_wp2_with fail
  refine hd.mono ?_
  rintro e w2 ⟨rfl, rfl⟩
  go_wp2_with fail
  go_ret2
  exact ⟨rfl, rfl⟩
theorem total_any {w : World} {g : Nat} {l : List Int} {L : List Flt} (h : MonSt w g l L) (hL : L.length ≤ 1000) (hv : ∀ f ∈ L, isB f.kind = true) :
    Calls Try.prog 14 #[.pointer (some ⟨g, 0, none⟩)] w fun e w' => e = .returned (.int .i64 L.length) ∧ w = w' := by
  have HS := Lib.hid (cnt_sum hv)
  have b0 := cnt_le L 0; have b1 := cnt_le L 1; have b2 := cnt_le L 2; have b3 := cnt_le L 3; have b4 := cnt_le L 4
  have k0 := count_any h hv 0; have k1 := count_any h hv 1; have k2 := count_any h hv 2; have k3 := count_any h hv 3; have k4 := count_any h hv 4
  generalize cntF L 0 = a0 at HS b0 k0; generalize cntF L 1 = a1 at HS b1 k1; generalize cntF L 2 = a2 at HS b2 k2; generalize cntF L 3 = a3 at HS b3 k3; generalize cntF L 4 = a4 at HS b4 k4
  go_enter Try.func14, Try.ntmps14
  go_wp2_with fail
  refine wp_loop_rounds 6 ?_
  rw [rounds_succ]
  go_wp2_with fail
  refine k0.mono ?_
  rintro e w2 ⟨rfl, rfl⟩
  go_wp2_with fail
  rw [rounds_succ]
  go_wp2_with fail
  refine k1.mono ?_
  rintro e w2 ⟨rfl, rfl⟩
  go_wp2_with fail
  rw [rounds_succ]
  go_wp2_with fail
  refine k2.mono ?_
  rintro e w2 ⟨rfl, rfl⟩
  go_wp2_with fail
  rw [rounds_succ]
  go_wp2_with fail
  refine k3.mono ?_
  rintro e w2 ⟨rfl, rfl⟩
  go_wp2_with fail
  rw [rounds_succ]
  go_wp2_with fail
  refine k4.mono ?_
  rintro e w2 ⟨rfl, rfl⟩
  go_wp2_with fail
  rw [rounds_succ]
  go_wp2_with fail
  go_ret
  exact ⟨by rw [← HS.out]; go_num, rfl⟩
theorem total_gone {w : World} {p : Option Addr} (h : Gone w p) :
    Calls Try.prog 14 #[.pointer p] w fun e w' => e = .returned (.int .i64 0) ∧ w = w' := by
  have kc := fun x => count_gone h x
  go_enter Try.func14, Try.ntmps14
  go_wp2_with fail
  refine wp_loop_rounds 6 ?_
  iterate 5
    rw [rounds_succ]
    go_wp2_with fail
    refine (kc _).mono ?_
    rintro e w2 ⟨rfl, rfl⟩
    go_wp2_with fail
  rw [rounds_succ]
  go_wp2_with fail
  go_ret
  exact ⟨rfl, rfl⟩
end Go.Proofs.Ytfdnfjcaaagkgaa
