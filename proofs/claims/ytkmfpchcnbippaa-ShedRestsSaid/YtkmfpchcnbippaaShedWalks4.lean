/- The walks of shed.Is, shed.Resting and the document's. -/
import Derived.Test.YtkmfpchcnbippaaShedWalks3
namespace Go.Proofs.Ytkmfpchcnbippaa
open Go.RowKit
def isR (ladder level : Int) : Bool := decide (0 < ladder) && decide (ladder ≤ level)
theorem is_any (w : World) (x y : Int) : Calls Try.prog 15 #[.int .i64 x, .int .i64 y] w fun e w' => e = .returned (.bool (isR x y)) ∧ w = w' := by
  by_cases h : 0 < x
  · have h1 : decide (0 < x) = true := by simpa using h
    have HF : Hid (isR x y = decide (x ≤ y)) := by unfold isR Hid; rw [h1]; simp
    go_enter Try.func15, Try.ntmps15
    go_wp2
    go_ret
    exact ⟨by rw [HF.out]; rfl, rfl⟩
  · have h1 : decide (0 < x) = false := by simpa using h
    have HF : Hid (isR x y = false) := by unfold isR Hid; rw [h1]; simp
    go_enter Try.func15, Try.ntmps15
    go_wp2
    go_ret
    exact ⟨by rw [HF.out]; rfl, rfl⟩
theorem refIs_any (w : World) (x y : Int) : Calls Try.prog 17 #[.int .i64 x, .int .i64 y] w fun e w' => e = .returned (.bool (isR x y)) ∧ w = w' := by
  by_cases h : 1 ≤ x
  · have h1 : decide (0 < x) = true := by simp; omega
    have HF : Hid (isR x y = decide (x ≤ y)) := by unfold isR Hid; rw [h1]; simp
    clear h1
    go_enter Try.func17, Try.ntmps17
    go_wp2
    go_ret
    exact ⟨by rw [HF.out]; rfl, rfl⟩
  · have h1 : decide (0 < x) = false := by simp; omega
    have h2 : decide (1 ≤ x) = false := by simpa using h
    have HF : Hid (isR x y = false) := by unfold isR Hid; rw [h1]; simp
    clear h1
    go_enter Try.func17, Try.ntmps17
    go_wp2
    go_ret
    exact ⟨by rw [HF.out]; rfl, rfl⟩

/-- a configuration's partitions, as shed sees them: the slice, and each one's ladder. -/
structure Lads (w : World) (A : Option Addr) (n c : Nat) (cs : List Value) (lad : List Int) : Prop where
  sl : Sl w A n c 11 cs
  one : ∀ u ∈ cs, u.oneCell' = true
  at9 : ∀ i, i < n → cs[i * 11 + 9]? = some (.int .i64 (at0 lad i))
  len : lad.length = n
  rng : ∀ x ∈ lad, i64 x
theorem Lads.keep {w w' : World} {A : Option Addr} {n c : Nat} {cs : List Value} {lad : List Int} (h : Lads w A n c cs lad) (hb : Below w.heap.size w w') : Lads w' A n c cs lad :=
  ⟨h.sl.keep hb, h.one, h.at9, h.len, h.rng⟩
def restS (lad : List Int) (lv : Int) (k : Nat) : List Int := ((List.range k).filter fun i => isR (at0 lad i) lv).map fun i : Nat => (i : Int)
theorem restS_succ (lad : List Int) (lv : Int) (k : Nat) : restS lad lv (k + 1) = if isR (at0 lad k) lv then restS lad lv k ++ [(k : Int)] else restS lad lv k := by
  unfold restS
  rw [List.range_succ, List.filter_append, List.map_append]
  split <;> simp_all
theorem restS_le (lad : List Int) (lv : Int) (k : Nat) : (restS lad lv k).length ≤ k := by
  unfold restS
  rw [List.length_map]
  exact Nat.le_trans (List.length_filter_le _ _) (by simp)

theorem refResting_any {w : World} {A : Option Addr} {n c : Nat} {cs : List Value} {lad : List Int} (h : Lads w A n c cs lad) (hsm : n ≤ 100000) (v1 v2 v3 v4 v5 v6 v7 v8 v9 v10 v11 v12 : Value) (lv : Int) :
    Calls Try.prog 14 #[.agg #[.slice A n c, v1, v2, v3, v4, v5, v6, v7, v8, v9, v10, v11, v12], .int .i64 lv] w fun e w' => ∃ v, e = .returned v ∧ w'.ownsRow w.heap.size 3 1 v (restS lad lv n).length ((restS lad lv n).map (Value.int .i64)) ∧ Below w.heap.size w w' := by
  obtain ⟨i0, hi0, hz0, hz1, hz2⟩ := info_parts int_info
  have hb0 := (Below.refl w.heap.size w).alloc (Nat.le_refl _) (.cells #[.slice A n c, v1, v2, v3, v4, v5, v6, v7, v8, v9, v10, v11, v12] 43)
  have hbk := Blk.new w 43 #[.slice A n c, v1, v2, v3, v4, v5, v6, v7, v8, v9, v10, v11, v12]
  have hn := h.sl.len_le
  go_enter Try.func14, Try.ntmps14
  go_wp2_with fail
  go_loopw [5, 6] (fun v i wr => ∃ k : Nat, k ≤ n ∧ i = .int .i64 k ∧ wr.ownsRow (w.heap.size + 1) 3 1 v (restS lad lv k).length ((restS lad lv k).map (Value.int .i64)) ∧ Blk wr w.heap.size 43 #[.slice A n c, v1, v2, v3, v4, v5, v6, v7, v8, v9, v10, v11, v12] ∧ Below w.heap.size w wr ∧ w.heap.size + 1 ≤ wr.heap.size) (fun _ i _ => n - (intOf i).toNat)
  case atStart => exact ⟨0, Nat.zero_le _, rfl, World.ownsRow_nil _ _ _ _, hbk, hb0, by simp⟩
  case round =>
    obtain ⟨k, hk, rfl, hown, hm, hbw, hsz⟩ := hrel
    have hc0 : wr.cell? ⟨w.heap.size, 0, none⟩ = some (.slice A n c) := hm.cell 0
    by_cases hlt : k < n
    · obtain ⟨b, o, rfl, hb, hck⟩ := (h.keep hbw).sl.at_ (by omega)
      have hc9 := hck _ _ (h.at9 k hlt)
      rw [← Nat.add_assoc] at hc9
      have hle := restS_le lad lv k
      clear hck
      go_wp2_with fail
      refine (refIs_any _ _ _).mono ?_
      rintro e w' ⟨rfl, rfl⟩
      have hsu := restS_succ lad lv k
      cases hr : isR (at0 lad k) lv
      · rw [hr] at hsu
        have HSU := Lib.hid hsu
        have HR := Lib.hid hr
        clear hr hsu
        go_wp2_with fail
        refine ⟨⟨k + 1, by omega, by go_num, by rw [HSU.out]; exact hown, hm, hbw, hsz⟩, by simp [intOf]; omega⟩
      · rw [hr] at hsu
        have HSU := Lib.hid hsu
        have HR := Lib.hid hr
        clear hr hsu
        go_wp2_with (at_builtin; refine wpList_app1 wr (by rfl) _ _ 22 (by rfl) (w.heap.size + 1) 3 i0 _ 1 8 Try.underlying22 hi0 hz0 hz1 hz2 rfl (by decide) (by decide) _ _ _ (by rfl) hown #[.int .i64 k] rfl (by simp [Value.oneCell']) (by rfl) (by omega) (by omega) ?_; intro v' w2 hown2 hf2 hat2)
        refine ⟨⟨k + 1, by omega, by go_num, by rw [HSU.out]; simpa using hown2, hm.fr hf2 (fun h => own_ne hown (by omega) h.symm), ?_, ?_⟩, by simp [intOf]; omega⟩
        · exact hbw.trans (hf2.below (fun g hg h => own_ne hown (by omega) h.symm) (by omega))
        · have := hf2.size; omega
    · obtain rfl : k = n := by omega
      go_wp2_with fail
      go_ret
      exact ⟨_, rfl, own_mono hown (by omega), hbw⟩
theorem list11 (l : List Value) (h : l.length = 11) : ∃ u0 u1 u2 u3 u4 u5 u6 u7 u8 u9 u10, l = [u0, u1, u2, u3, u4, u5, u6, u7, u8, u9, u10] := by
  match l, h with
  | [u0, u1, u2, u3, u4, u5, u6, u7, u8, u9, u10], _ => exact ⟨u0, u1, u2, u3, u4, u5, u6, u7, u8, u9, u10, rfl⟩
theorem Lads.part {w : World} {A : Option Addr} {n c : Nat} {cs : List Value} {lad : List Int} (h : Lads w A n c cs lad) {k : Nat} (hk : k < n) : ∃ b o u0 u1 u2 u3 u4 u5 u6 u7 u8 u10, A = some ⟨b, o, none⟩ ∧ b < w.heap.size ∧
    w.cell? ⟨b, o + k * 11, none⟩ = some u0 ∧ w.cell? ⟨b, o + k * 11 + 1, none⟩ = some u1 ∧ w.cell? ⟨b, o + k * 11 + 2, none⟩ = some u2 ∧ w.cell? ⟨b, o + k * 11 + 3, none⟩ = some u3 ∧ w.cell? ⟨b, o + k * 11 + 4, none⟩ = some u4 ∧ w.cell? ⟨b, o + k * 11 + 5, none⟩ = some u5 ∧
    w.cell? ⟨b, o + k * 11 + 6, none⟩ = some u6 ∧ w.cell? ⟨b, o + k * 11 + 7, none⟩ = some u7 ∧ w.cell? ⟨b, o + k * 11 + 8, none⟩ = some u8 ∧ w.cell? ⟨b, o + k * 11 + 9, none⟩ = some (.int .i64 (at0 lad k)) ∧ w.cell? ⟨b, o + k * 11 + 10, none⟩ = some u10 ∧
    (∀ u ∈ [u0, u1, u2, u3, u4, u5, u6, u7, u8, u10], u.oneCell' = true) := by
  obtain ⟨b, o, e, hb, hc⟩ := h.sl.at_ (by omega)
  have hl := h.sl.1
  obtain ⟨u0, u1, u2, u3, u4, u5, u6, u7, u8, u9, u10, hu⟩ := list11 ((cs.drop (k * 11)).take 11) (by rw [List.length_take, List.length_drop]; omega)
  have hg : ∀ j u, [u0, u1, u2, u3, u4, u5, u6, u7, u8, u9, u10][j]? = some u → cs[k * 11 + j]? = some u := by
    intro j u hj
    rw [← hu, List.getElem?_take] at hj
    split at hj
    · rwa [List.getElem?_drop] at hj
    · cases hj
  have h9 := h.at9 k hk
  rw [hg 9 u9 rfl] at h9
  cases h9
  have hcell : ∀ j u, [u0, u1, u2, u3, u4, u5, u6, u7, u8, .int .i64 (at0 lad k), u10][j]? = some u → w.cell? ⟨b, o + k * 11 + j, none⟩ = some u := fun j u hj => by
    rw [Nat.add_assoc]; exact hc _ _ (hg j u hj)
  refine ⟨b, o, u0, u1, u2, u3, u4, u5, u6, u7, u8, u10, e, hb, hcell 0 _ rfl, hcell 1 _ rfl, hcell 2 _ rfl, hcell 3 _ rfl, hcell 4 _ rfl, hcell 5 _ rfl, hcell 6 _ rfl, hcell 7 _ rfl, hcell 8 _ rfl, hcell 9 _ rfl, hcell 10 _ rfl, fun u hu' => h.one u ?_⟩
  have : u ∈ [u0, u1, u2, u3, u4, u5, u6, u7, u8, .int .i64 (at0 lad k), u10] := by simp at hu' ⊢; rcases hu' with h | h | h | h | h | h | h | h | h | h <;> simp [h]
  obtain ⟨j, hj⟩ := List.getElem?_of_mem this
  exact List.mem_of_getElem? (hg j u hj)

theorem resting_any {w : World} {A : Option Addr} {n c : Nat} {cs : List Value} {lad : List Int} (h : Lads w A n c cs lad) (hsm : n ≤ 100000) (v1 v2 v3 v4 v5 v6 v7 v8 v9 v10 v11 v12 : Value) (lv : Int) :
    Calls Try.prog 13 #[.agg #[.slice A n c, v1, v2, v3, v4, v5, v6, v7, v8, v9, v10, v11, v12], .int .i64 lv] w fun e w' => ∃ v, e = .returned v ∧ w'.ownsRow w.heap.size 3 1 v (restS lad lv n).length ((restS lad lv n).map (Value.int .i64)) ∧ Below w.heap.size w w' := by
  obtain ⟨i0, hi0, hz0, hz1, hz2⟩ := info_parts int_info
  have hb0 := (Below.refl w.heap.size w).alloc (Nat.le_refl _) (.cells #[.slice A n c, v1, v2, v3, v4, v5, v6, v7, v8, v9, v10, v11, v12] 43)
  have hbk := Blk.new w 43 #[.slice A n c, v1, v2, v3, v4, v5, v6, v7, v8, v9, v10, v11, v12]
  have hn := h.sl.len_le
  go_enter Try.func13, Try.ntmps13
  go_wp2_with fail
  go_loopw [5, 11] (fun v i wr => ∃ k : Nat, k ≤ n ∧ i = .int .i64 k ∧ wr.ownsRow (w.heap.size + 1) 3 1 v (restS lad lv k).length ((restS lad lv k).map (Value.int .i64)) ∧ Blk wr w.heap.size 43 #[.slice A n c, v1, v2, v3, v4, v5, v6, v7, v8, v9, v10, v11, v12] ∧ Below w.heap.size w wr ∧ w.heap.size + 1 ≤ wr.heap.size) (fun _ i _ => n - (intOf i).toNat)
  case atStart => exact ⟨0, Nat.zero_le _, rfl, World.ownsRow_nil _ _ _ _, hbk, hb0, by simp⟩
  case round =>
    obtain ⟨k, hk, rfl, hown, hm, hbw, hsz⟩ := hrel
    have hc0 : wr.cell? ⟨w.heap.size, 0, none⟩ = some (.slice A n c) := hm.cell 0
    by_cases hlt : k < n
    · obtain ⟨b, o, u0, u1, u2, u3, u4, u5, u6, u7, u8, u10, rfl, hb, hc0', hc1, hc2, hc3, hc4, hc5, hc6, hc7, hc8, hc9, hc10, hone⟩ := (h.keep hbw).part hlt
      have hle := restS_le lad lv k
      have ho : ∀ u ∈ [u0, u1, u2, u3, u4, u5, u6, u7, u8, u10], u.oneCell' = true := hone
      simp only [List.forall_mem_cons] at ho
      obtain ⟨o0, o1, o2, o3, o4, o5, o6, o7, o8, o10, -⟩ := ho
      have HONE := Lib.hid hone
      clear hone
      go_wp2_with fail
      refine (is_any _ _ _).mono ?_
      rintro e w' ⟨rfl, rfl⟩
      have hown1 := hown.alloc (.cells #[u0, u1, u2, u3, u4, u5, u6, u7, u8, .int .i64 (at0 lad k), u10] 57)
      have hm1 := hm.alloc (.cells #[u0, u1, u2, u3, u4, u5, u6, u7, u8, .int .i64 (at0 lad k), u10] 57)
      have hbw1 := hbw.alloc (by omega) (.cells #[u0, u1, u2, u3, u4, u5, u6, u7, u8, .int .i64 (at0 lad k), u10] 57)
      have hsz1 : w.heap.size + 1 ≤ (wr.alloc (.cells #[u0, u1, u2, u3, u4, u5, u6, u7, u8, .int .i64 (at0 lad k), u10] 57)).heap.size := by simp; omega
      generalize wr.alloc (.cells #[u0, u1, u2, u3, u4, u5, u6, u7, u8, .int .i64 (at0 lad k), u10] 57) = w1 at hown1 hm1 hbw1 hsz1 ⊢
      clear hc0 hc0' hc1 hc2 hc3 hc4 hc5 hc6 hc7 hc8 hc9 hc10 o0 o1 o2 o3 o4 o5 o6 o7 o8 o10
      have hsu := restS_succ lad lv k
      cases hr : isR (at0 lad k) lv
      · rw [hr, if_neg Bool.false_ne_true] at hsu
        have HSU := Lib.hid hsu
        have HR := Lib.hid hr
        clear hr hsu
        go_wp2_with fail
        refine ⟨⟨k + 1, by omega, by go_num, by rw [HSU.out]; exact hown1, hm1, hbw1, hsz1⟩, by simp [intOf]; omega⟩
      · rw [hr, if_pos rfl] at hsu
        have HSU := Lib.hid hsu
        have HR := Lib.hid hr
        clear hr hsu
        go_wp2_with (at_builtin; refine wpList_app1 w1 (by rfl) _ _ 22 (by rfl) (w.heap.size + 1) 3 i0 _ 1 8 Try.underlying22 hi0 hz0 hz1 hz2 rfl (by decide) (by decide) _ _ _ (by rfl) hown1 #[.int .i64 k] rfl (by simp [Value.oneCell']) (by rfl) (by omega) (by omega) ?_; intro v' w2 hown2 hf2 hat2)
        refine ⟨⟨k + 1, by omega, by go_num, by rw [HSU.out]; simpa using hown2, hm1.fr hf2 (fun h => own_ne hown1 (by omega) h.symm), ?_, ?_⟩, by simp [intOf]; omega⟩
        · exact hbw1.trans (hf2.below (fun g hg h => own_ne hown1 (by omega) h.symm) (by omega))
        · have := hf2.size; omega
    · obtain rfl : k = n := by omega
      go_wp2_with fail
      go_ret
      exact ⟨_, rfl, own_mono hown (by omega), hbw⟩
end Go.Proofs.Ytkmfpchcnbippaa
