/- The walks of package ground: what a station hears. -/
import Derived.Test.YtolohbgfhledoaaGrStation
namespace Go.Proofs.Ytolohbgfhledoaa
open Go.RowKit
def setM (F : List Fm) (i : Nat) (x : Int) : List Fm := F.set i ⟨(atD fm0 F i).r, x, (atD fm0 F i).d, (atD fm0 F i).c⟩
def setC (F : List Fm) (i : Nat) (x : Int) : List Fm := F.set i ⟨(atD fm0 F i).r, (atD fm0 F i).m, (atD fm0 F i).d, x⟩
theorem flat_setM (F : List Fm) (i : Nat) (hi : i < F.length) (x : Int) : (F.flatMap fmC).set (i * 4 + 1) (.int .i64 x) = (setM F i x).flatMap fmC := by
  unfold setM
  induction F generalizing i with
  | nil => simp at hi
  | cons y F ih =>
    cases i with
    | zero => rfl
    | succ i =>
      have := ih i (by simpa using hi)
      rw [List.flatMap_cons, show (i + 1) * 4 + 1 = (fmC y).length + (i * 4 + 1) by simp [fmC]; omega, List.set_append_right _ _ (by omega), Nat.add_sub_cancel_left, this]
      simp [atD]
theorem flat_setC (F : List Fm) (i : Nat) (hi : i < F.length) (x : Int) : (F.flatMap fmC).set (i * 4 + 3) (.int .i64 x) = (setC F i x).flatMap fmC := by
  unfold setC
  induction F generalizing i with
  | nil => simp at hi
  | cons y F ih =>
    cases i with
    | zero => rfl
    | succ i =>
      have := ih i (by simpa using hi)
      rw [List.flatMap_cons, show (i + 1) * 4 + 3 = (fmC y).length + (i * 4 + 3) by simp [fmC]; omega, List.set_append_right _ _ (by omega), Nat.add_sub_cancel_left, this]
      simp [atD]
theorem setM_len (F : List Fm) (i : Nat) (x : Int) : (setM F i x).length = F.length := by simp [setM]
theorem setC_len (F : List Fm) (i : Nat) (x : Int) : (setC F i x).length = F.length := by simp [setC]
/-- the block of a station's row -/
def rowB (w : World) (g : Nat) : Option Nat := match w.cell? ⟨g, 1, none⟩ with
  | some v => v.ownBlock
  | none => none
theorem rowB_of {w : World} {g : Nat} {t : TypeId} {cs : Array Value} {v : Value} (h : Blk w g t cs) (hc : cs[1]? = some v) : rowB w g = v.ownBlock := by
  unfold rowB
  rw [h.cell 1, hc]
theorem rowB_cell {w w' : World} {g : Nat} (h : w'.cell? ⟨g, 1, none⟩ = w.cell? ⟨g, 1, none⟩) : rowB w' g = rowB w g := by
  unfold rowB
  rw [h]
/-- nothing but the station and its row is changed; its row then is that one or a new one -/
def StFr (w : World) (g : Nat) (w' : World) : Prop := Fr (fun k => k = g ∨ rowB w g = some k) w w' ∧ ∀ k, rowB w' g = some k → rowB w g = some k ∨ w.heap.size ≤ k
theorem StFr.of_fr {w w' : World} {g : Nat} (h : Fr (fun _ => False) w w') (hg : g < w.heap.size) : StFr w g w' := by
  refine ⟨h.mono (fun k _ h => h.elim), fun k hk => .inl ?_⟩
  rw [← hk]
  exact (rowB_cell (h.cell (p := ⟨g, 1, none⟩) hg (fun h => h))).symm
theorem StSt.drew {w : World} {g B : Nat} {F0 F : List Fm} {nx : Int} (h : StSt w g B F0 F nx) : StSt w.drew g B F0 F nx := h
set_option maxRecDepth 100000 in
theorem mode_any {w : World} {g B : Nat} {F0 F : List Fm} {nx : Int} (h : StSt w g B F0 F nx) {q k v : Int} {i : Nat} (hi : i < F.length) :
    Calls Try.prog 47 #[.pointer (some ⟨g, 0, none⟩), .agg #[.int .i64 q, .int .i64 k, .int .i64 (i : Int), .int .i64 v]] w fun e w' => e = .returned (.tuple #[]) ∧ StSt w' g B F0 (setM F i v) nx ∧ Fr (fun k => k = g ∨ B ≤ k) w w' ∧ StFr w g w' := by
  obtain ⟨A1, c1, vv, h1, h2, h3, h4, h5, h6, h7, h8⟩ := h
  obtain ⟨ob, cap, rfl, hob, hol⟩ := h4.form (by omega)
  have hgo : ¬ g = ob := fun e => h6 (by rw [e]; rfl)
  have hrow : rowB w g = some ob := rowB_of h1 rfl
  have hgl := h1.lt
  have e1 := (h4.cellAt (i * 4 + 1) (by omega)).trans (flat_get (f := fmC) (sz := 4) fm0 F (fun _ _ => rfl) i 1 hi (by decide))
  have hz := (Below.refl w.heap.size w).alloc (Nat.le_refl _) (.cells #[.int .i64 q, .int .i64 k, .int .i64 (i : Int), .int .i64 v] 29)
  have bp := Blk.new w 29 #[.int .i64 q, .int .i64 k, .int .i64 (i : Int), .int .i64 v]
  have hin : (i : Int) < (F.length : Int) := by omega
  go_enter Try.func47, Try.ntmps47
  go_wp2_with fail
  have k1 := h1.keep hz
  have k4 := own_below h4 hz
  have k2 := h2.keep hz
  have hpn : w.heap.size ≠ g := by omega
  generalize hw1 : w.alloc (.cells #[.int .i64 q, .int .i64 k, .int .i64 (i : Int), .int .i64 v] 29) = w1 at hz bp k1 k2 k4 ⊢
  clear hw1
  have d1 : w1.cell? ⟨g, 1, none⟩ = some (.slice (some ⟨ob, 0, none⟩) F.length cap) := k1.cell 1
  have p2 : w1.cell? ⟨w.heap.size, 2, none⟩ = some (.int .i64 (i : Int)) := bp.cell 2
  have p3 : w1.cell? ⟨w.heap.size, 3, none⟩ = some (.int .i64 v) := bp.cell 3
  have e1' : w1.cell? ⟨ob, i * 4 + 1, none⟩ = some (.int .i64 (atD fm0 F i).m) := (k4.cellAt (i * 4 + 1) (by omega)).trans (flat_get (f := fmC) (sz := 4) fm0 F (fun _ _ => rfl) i 1 hi (by decide))
  have f1' := k4.frozenAt (i * 4 + 1)
  have gl1 := k1.lt
  have pl1 := bp.lt
  have ol1 : ob < w1.heap.size := Nat.lt_of_lt_of_le hol hz.size
  refine wp_region_last (fun _ => False) [10] (by kernel_rfl) (by kernel_rfl) ?_
  simp only [wpSegs, List.take, List.drop]
  repeat (go_big_quiet_step (fail))
  refine wpQuiet_nil (wpHead_last rfl (fun K' hK' => ?_))
  go_wp2_with fail
  refine hK' _ _ rfl ?_
  clear hK' K'
  refine wpQuiet_nil ?_
  go_wp2_with fail
  go_end0
  obtain ⟨s1, s2⟩ := World.ownsRow.stored (w := w1) k4 (i * 4 + 1) (.int .i64 v)
  rw [flat_setM F i hi] at s1
  have hfS : Fr (fun k => k = ob) w1 (w1.setCell ⟨ob, i * 4 + 1, none⟩ (.int .i64 v)) := (Fr.refl (fun k => k = ob) w1).setCell (p := ⟨ob, i * 4 + 1, none⟩) (fun _ => rfl) _
  have k2' := SlG.fr (S := fun k => k = ob) k2 hfS (fun b o hp e h => by have := h3 b o hp e; have h : b = ob := h; omega)
  have hst : StSt (w1.setCell ⟨ob, i * 4 + 1, none⟩ (.int .i64 v)) g B F0 (setM F i v) nx := ⟨A1, c1, _, Blk.fr (S := fun k => k = ob) k1 hfS hgo, k2', h3, by rw [setM_len]; exact s1, h5, h6, h7, by rw [setM_len]; exact h8⟩
  have hrow' := rowB_of (Blk.fr (S := fun k => k = ob) k1 hfS hgo) rfl
  refine ⟨rfl, hst.drew, ((Fr.of_below hz _).trans (hfS.mono (fun k _ hk => .inr (by omega)))).drew, ((Fr.of_below hz _).trans (hfS.mono (fun k _ hk => .inr (by rw [hrow, hk])))).drew, fun k hk => .inl ?_⟩
  rw [hrow, ← hk]
  exact hrow'.symm
set_option maxRecDepth 100000 in
theorem choice_any {w : World} {g B : Nat} {F0 F : List Fm} {nx : Int} (h : StSt w g B F0 F nx) {q k v : Int} {i : Nat} (hi : i < F.length) :
    Calls Try.prog 48 #[.pointer (some ⟨g, 0, none⟩), .agg #[.int .i64 q, .int .i64 k, .int .i64 (i : Int), .int .i64 v]] w fun e w' => e = .returned (.tuple #[]) ∧ StSt w' g B F0 (setC F i v) nx ∧ Fr (fun k => k = g ∨ B ≤ k) w w' ∧ StFr w g w' := by
  obtain ⟨A1, c1, vv, h1, h2, h3, h4, h5, h6, h7, h8⟩ := h
  obtain ⟨ob, cap, rfl, hob, hol⟩ := h4.form (by omega)
  have hgo : ¬ g = ob := fun e => h6 (by rw [e]; rfl)
  have hrow : rowB w g = some ob := rowB_of h1 rfl
  have hgl := h1.lt
  have e1 := (h4.cellAt (i * 4 + 3) (by omega)).trans (flat_get (f := fmC) (sz := 4) fm0 F (fun _ _ => rfl) i 3 hi (by decide))
  have hz := (Below.refl w.heap.size w).alloc (Nat.le_refl _) (.cells #[.int .i64 q, .int .i64 k, .int .i64 (i : Int), .int .i64 v] 29)
  have bp := Blk.new w 29 #[.int .i64 q, .int .i64 k, .int .i64 (i : Int), .int .i64 v]
  have hin : (i : Int) < (F.length : Int) := by omega
  go_enter Try.func48, Try.ntmps48
  go_wp2_with fail
  have k1 := h1.keep hz
  have k4 := own_below h4 hz
  have k2 := h2.keep hz
  have hpn : w.heap.size ≠ g := by omega
  generalize hw1 : w.alloc (.cells #[.int .i64 q, .int .i64 k, .int .i64 (i : Int), .int .i64 v] 29) = w1 at hz bp k1 k2 k4 ⊢
  clear hw1
  have d1 : w1.cell? ⟨g, 1, none⟩ = some (.slice (some ⟨ob, 0, none⟩) F.length cap) := k1.cell 1
  have p2 : w1.cell? ⟨w.heap.size, 2, none⟩ = some (.int .i64 (i : Int)) := bp.cell 2
  have p3 : w1.cell? ⟨w.heap.size, 3, none⟩ = some (.int .i64 v) := bp.cell 3
  have e1' : w1.cell? ⟨ob, i * 4 + 3, none⟩ = some (.int .i64 (atD fm0 F i).c) := (k4.cellAt (i * 4 + 3) (by omega)).trans (flat_get (f := fmC) (sz := 4) fm0 F (fun _ _ => rfl) i 3 hi (by decide))
  have f1' := k4.frozenAt (i * 4 + 3)
  have gl1 := k1.lt
  have pl1 := bp.lt
  have ol1 : ob < w1.heap.size := Nat.lt_of_lt_of_le hol hz.size
  refine wp_region_last (fun _ => False) [10] (by kernel_rfl) (by kernel_rfl) ?_
  simp only [wpSegs, List.take, List.drop]
  repeat (go_big_quiet_step (fail))
  refine wpQuiet_nil (wpHead_last rfl (fun K' hK' => ?_))
  go_wp2_with fail
  refine hK' _ _ rfl ?_
  clear hK' K'
  refine wpQuiet_nil ?_
  go_wp2_with fail
  go_end0
  obtain ⟨s1, s2⟩ := World.ownsRow.stored (w := w1) k4 (i * 4 + 3) (.int .i64 v)
  rw [flat_setC F i hi] at s1
  have hfS : Fr (fun k => k = ob) w1 (w1.setCell ⟨ob, i * 4 + 3, none⟩ (.int .i64 v)) := (Fr.refl (fun k => k = ob) w1).setCell (p := ⟨ob, i * 4 + 3, none⟩) (fun _ => rfl) _
  have k2' := SlG.fr (S := fun k => k = ob) k2 hfS (fun b o hp e h => by have := h3 b o hp e; have h : b = ob := h; omega)
  have hst : StSt (w1.setCell ⟨ob, i * 4 + 3, none⟩ (.int .i64 v)) g B F0 (setC F i v) nx := ⟨A1, c1, _, Blk.fr (S := fun k => k = ob) k1 hfS hgo, k2', h3, by rw [setC_len]; exact s1, h5, h6, h7, by rw [setC_len]; exact h8⟩
  have hrow' := rowB_of (Blk.fr (S := fun k => k = ob) k1 hfS hgo) rfl
  refine ⟨rfl, hst.drew, ((Fr.of_below hz _).trans (hfS.mono (fun k _ hk => .inr (by omega)))).drew, ((Fr.of_below hz _).trans (hfS.mono (fun k _ hk => .inr (by rw [hrow, hk])))).drew, fun k hk => .inl ?_⟩
  rw [hrow, ← hk]
  exact hrow'.symm
set_option maxRecDepth 100000 in
theorem reset_any {w : World} {g B : Nat} {F0 F : List Fm} {nx : Int} (h : StSt w g B F0 F nx) {q k f v : Int} :
    Calls Try.prog 49 #[.pointer (some ⟨g, 0, none⟩), .agg #[.int .i64 q, .int .i64 k, .int .i64 f, .int .i64 v]] w fun e w' => e = .returned (.tuple #[]) ∧ StSt w' g B F0 F0 nx ∧ Fr (fun k => k = g ∨ B ≤ k) w w' ∧ StFr w g w' := by
  obtain ⟨A1, c1, vv, h1, h2, h3, h4, h5, h6, h7, h8⟩ := h
  have hgl := h1.lt
  have hz := (Below.refl w.heap.size w).alloc (Nat.le_refl _) (.cells #[.int .i64 q, .int .i64 k, .int .i64 f, .int .i64 v] 29)
  go_enter Try.func49, Try.ntmps49
  have k1 := h1.keep hz
  have k2 := h2.keep hz
  have d0 : (w.alloc (.cells #[.int .i64 q, .int .i64 k, .int .i64 f, .int .i64 v] 29)).cell? ⟨g, 0, none⟩ = some (.slice A1 F0.length c1) := k1.cell 0
  go_wp2_with fail
  generalize hw1 : w.alloc (.cells #[.int .i64 q, .int .i64 k, .int .i64 f, .int .i64 v] 29) = w1 at hz k1 k2 d0 ⊢
  clear hw1
  refine (cloneF_any k2 (by omega)).mono ?_
  rintro e w2 ⟨v2, rfl, hown2, hb2⟩
  obtain ⟨A2, c2, rfl, -, -⟩ := SlG.of_own hown2 (fun _ _ => rfl) rfl
  have m1 := k1.keep hb2
  have m2 := k2.keep hb2
  have e1 : w2.cell? ⟨g, 1, none⟩ = some vv := m1.cell 1
  have f1 := m1.frozen 1
  have gl2 := m1.lt
  go_wp2_with fail
  go_end0
  have hgo : some g ≠ Value.ownBlock (.slice A2 F0.length c2) := fun e => by
    have := (hown2.lt _ e.symm).1
    have := k1.lt
    omega
  have hfS : Fr (fun k => k = g) w2 (w2.setCell ⟨g, 1, none⟩ (.slice A2 F0.length c2)) := (Fr.refl (fun k => k = g) w2).setCell (p := ⟨g, 1, none⟩) (fun _ => rfl) _
  have hBw : B ≤ w1.heap.size := by have := k1.lt; omega
  refine ⟨rfl, ⟨A1, c1, _, m1.set_ 1 _, m2.fr hfS (fun b o hp e h => by have := h3 b o hp e; omega), h3, own_mono (own_far hown2 hfS (fun k hk => by have := k1.lt; omega)) hBw, h5, hgo, h7, h7⟩, (Fr.of_below (hz.trans (hb2.mono hz.size)) _).trans (hfS.mono (fun k _ hk => .inl hk)), (Fr.of_below (hz.trans (hb2.mono hz.size)) _).trans (hfS.mono (fun k _ hk => .inl hk)), fun k hk => .inr ?_⟩
  have hr : rowB (w2.setCell ⟨g, 1, none⟩ (.slice A2 F0.length c2)) g = (Value.slice A2 F0.length c2).ownBlock := rowB_of (m1.set_ 1 _) rfl
  have hr2 := (hown2.lt k (hr.symm.trans hk)).1
  have := hz.size
  omega
def actV (p : Value) (k : Int) : Value := if k = 0 then .func (.func 47) #[p] #[] else if k = 1 then .func (.func 48) #[p] #[] else .func (.func 49) #[p] #[]
theorem actV_else {p : Value} {k : Int} (h0 : ¬ k = 0) (h1 : ¬ k = 1) : actV p k = .func (.func 49) #[p] #[] := by unfold actV; rw [if_neg h0, if_neg h1]
theorem act_any {w : World} (p : Value) (hp : p.oneCell' = true) (k : Int) :
    Calls Try.prog 37 #[p, .int .i64 k] w fun e w' => e = .returned (actV p k) ∧ w = w' := by
  by_cases h0 : k = 0
  · subst h0
    go_enter Try.func37, Try.ntmps37
    go_wp2_with fail
    go_ret
    exact ⟨rfl, rfl⟩
  · by_cases h1 : k = 1
    · subst h1
      go_enter Try.func37, Try.ntmps37
      go_wp2_with fail
      go_ret
      exact ⟨rfl, rfl⟩
    · have t0 : (k == 0) = false := by simpa using h0
      have t1 : (k == 1) = false := by simpa using h1
      have HK : Hid (actV p k = .func (.func 49) #[p] #[]) := actV_else h0 h1
      clear h0 h1
      go_enter Try.func37, Try.ntmps37
      go_wp2_with fail
      go_ret
      exact ⟨by rw [HK.out]; rfl, rfl⟩
end Go.Proofs.Ytolohbgfhledoaa
