/- The walks of package ground: Hear. -/
import Derived.Test.YtolohbgfhledoaaGrHear
namespace Go.Proofs.Ytolohbgfhledoaa
open Go.RowKit
theorem SGone.keep {w w' : World} {p : Option Addr} (h : SGone w p) (hb : Below w.heap.size w w') : SGone w' p := by
  rcases h with rfl | ⟨g, rfl, c⟩
  · exact .inl rfl
  · refine .inr ⟨g, rfl, ?_⟩
    have hg : g < w.heap.size := by
      rcases Nat.lt_or_ge g w.heap.size with hlt | hge
      · exact hlt
      · simp [World.cell?, Array.getElem?_eq_none hge] at c
    rw [(bcell hb).1 g 4 hg]
    exact c
theorem hear_gone {w : World} {p : Option Addr} {q : Pk} (h : SGone w p) : Calls Try.prog 18 #[.pointer p, q.val] w fun e w' => e = .returned (.int .i64 1) ∧ Below w.heap.size w w' := by
  obtain ⟨q, k, f, v⟩ := q
  have hb := (Below.refl w.heap.size w).alloc (Nat.le_refl _) (.cells #[.int .i64 q, .int .i64 k, .int .i64 f, .int .i64 v] 29)
  show Calls Try.prog _ #[.pointer p, .agg #[.int .i64 q, .int .i64 k, .int .i64 f, .int .i64 v]] w _
  have h0 := h.keep hb
  go_enter Try.func18, Try.ntmps18
  go_wp2_with fail
  generalize w.alloc (.cells #[.int .i64 q, .int .i64 k, .int .i64 f, .int .i64 v] 29) = w0 at h0 hb ⊢
  refine (sdead_gone h0).mono ?_
  rintro e w1 ⟨rfl, rfl⟩
  go_wp2_with fail
  go_ret
  exact ⟨rfl, hb⟩
/-- what a station answers to a packet, and its frames and number then -/
def hearR (F0 F : List Fm) (nx : Int) (p : Pk) : Int × List Fm × Int :=
  if mayP p = false then (2, F, nx) else if p.q ≠ nx then (14, F, nx) else if p.k ≠ 2 ∧ (F.length : Int) ≤ p.f then (4, F, nx)
  else (0, if p.k = 0 then setM F p.f.toNat p.v else if p.k = 1 then setC F p.f.toNat p.v else F0, nx + 1)
theorem StSt.step {w : World} {g B : Nat} {F0 F : List Fm} {nx : Int} (h : StSt w g B F0 F nx) (nx' : Int) : StSt ((w.setCell ⟨g, 2, none⟩ (.int .i64 nx')).setCell ⟨g, 3, none⟩ (.int .i64 nx')) g B F0 F nx' ∧ Fr (fun k => k = g) w ((w.setCell ⟨g, 2, none⟩ (.int .i64 nx')).setCell ⟨g, 3, none⟩ (.int .i64 nx')) ∧ rowB ((w.setCell ⟨g, 2, none⟩ (.int .i64 nx')).setCell ⟨g, 3, none⟩ (.int .i64 nx')) g = rowB w g := by
  obtain ⟨A1, c1, v, h1, h2, h3, h4, h5, h6, h7, h8⟩ := h
  have hf : Fr (fun k => k = g) w ((w.setCell ⟨g, 2, none⟩ (.int .i64 nx')).setCell ⟨g, 3, none⟩ (.int .i64 nx')) :=
    ((Fr.refl (fun k => k = g) w).setCell (p := ⟨g, 2, none⟩) (fun _ => rfl) _).setCell (p := ⟨g, 3, none⟩) (fun _ => rfl) _
  refine ⟨⟨A1, c1, v, (h1.set_ 2 _).set_ 3 _, SlG.fr (S := fun k => k = g) h2 hf (fun b o hp e h => by have := h3 b o hp e; have h : b = g := h; omega), h3, own_fr (S := fun k => k = g) h4 hf (fun k _ e hk => h6 (by rw [← hk, e])), h5, h6, h7, h8⟩, hf, (rowB_of ((h1.set_ 2 _).set_ 3 _) rfl).trans (rowB_of h1 rfl).symm⟩
set_option maxRecDepth 100000 in
set_option maxHeartbeats 1600000 in
theorem hear_any {w : World} {g B : Nat} {F0 F : List Fm} {nx : Int} {p : Pk} (h : StSt w g B F0 F nx) :
    Calls Try.prog 18 #[.pointer (some ⟨g, 0, none⟩), p.val] w fun e w' => e = .returned (.int .i64 (hearR F0 F nx p).1) ∧ StSt w' g B F0 (hearR F0 F nx p).2.1 (hearR F0 F nx p).2.2 ∧ Fr (fun k => k = g ∨ B ≤ k) w w' ∧ StFr w g w' := by
  have HR : Hid (hearR F0 F nx p = if mayP p = false then (2, F, nx) else if p.q ≠ nx then (14, F, nx) else if p.k ≠ 2 ∧ (F.length : Int) ≤ p.f then (4, F, nx)
    else (0, if p.k = 0 then setM F p.f.toNat p.v else if p.k = 1 then setC F p.f.toNat p.v else F0, nx + 1)) := rfl
  generalize hearR F0 F nx p = R at HR ⊢
  obtain ⟨q, k, f, v⟩ := p
  have hb0 := (Below.refl w.heap.size w).alloc (Nat.le_refl _) (.cells #[.int .i64 q, .int .i64 k, .int .i64 f, .int .i64 v] 29)
  have b1 := Blk.new w 29 #[.int .i64 q, .int .i64 k, .int .i64 f, .int .i64 v]
  have h0 := h.keep hb0
  show Calls Try.prog _ #[.pointer (some ⟨g, 0, none⟩), .agg #[.int .i64 q, .int .i64 k, .int .i64 f, .int .i64 v]] w _
  go_enter Try.func18, Try.ntmps18
  go_wp2_with fail
  generalize w.alloc (.cells #[.int .i64 q, .int .i64 k, .int .i64 f, .int .i64 v] 29) = w0 at b1 hb0 h0 ⊢
  refine (sdead_any h0).mono ?_
  rintro e w1 ⟨rfl, rfl⟩
  have q0 : w0.cell? ⟨w.heap.size, 0, none⟩ = some (.int .i64 q) := b1.cell 0
  have q1 : w0.cell? ⟨w.heap.size, 1, none⟩ = some (.int .i64 k) := b1.cell 1
  have q2 : w0.cell? ⟨w.heap.size, 2, none⟩ = some (.int .i64 f) := b1.cell 2
  have q3 : w0.cell? ⟨w.heap.size, 3, none⟩ = some (.int .i64 v) := b1.cell 3
  go_wp2_with fail
  refine (may_any (p := ⟨q, k, f, v⟩)).mono ?_
  rintro e w2 ⟨rfl, hb2⟩
  have h2 := h0.keep hb2
  have b2 := b1.keep hb2
  have hB2 := hb0.trans (hb2.mono hb0.size)
  have p0 : w2.cell? ⟨w.heap.size, 0, none⟩ = some (.int .i64 q) := b2.cell 0
  have p1 : w2.cell? ⟨w.heap.size, 1, none⟩ = some (.int .i64 k) := b2.cell 1
  have p2 : w2.cell? ⟨w.heap.size, 2, none⟩ = some (.int .i64 f) := b2.cell 2
  have p3 : w2.cell? ⟨w.heap.size, 3, none⟩ = some (.int .i64 v) := b2.cell 3
  have hB : B ≤ w.heap.size := by obtain ⟨_, _, _, h1, _, _, _, h5, _⟩ := h; have := h1.lt; omega
  have hgw : g < w.heap.size := by obtain ⟨_, _, _, h1, _⟩ := h; exact h1.lt
  cases hm : mayP ⟨q, k, f, v⟩ with
  | false =>
    have HR4 : Hid (R = (2, F, nx)) := by unfold Hid; rw [HR.out, if_pos hm]
    clear HR hm
    go_wp2_with fail
    go_ret
    exact ⟨by rw [HR4.out]; rfl, by rw [HR4.out]; exact h2, Fr.of_below hB2 _, StFr.of_fr (Fr.of_below hB2 _) hgw⟩
  | true =>
    have hmi : Hid ((0 ≤ q ∧ q ≤ 1000000) ∧ (0 ≤ f ∧ f ≤ 1000000) ∧ 0 ≤ k ∧ k < 3) := mayP_iff.1 hm
    have HR2 : Hid (R = if q ≠ nx then (14, F, nx) else if k ≠ 2 ∧ (F.length : Int) ≤ f then (4, F, nx)
      else (0, if k = 0 then setM F f.toNat v else if k = 1 then setC F f.toNat v else F0, nx + 1)) := by
      unfold Hid
      rw [HR.out, if_neg (by rw [hm]; decide)]
    clear HR hm
    have hcp := h2
    obtain ⟨A1, c1, vv, s1, s2, s3, s4, s5, s6, s7, s8⟩ := hcp
    obtain ⟨A, c, rfl, hs, -⟩ := SlG.of_own s4 (fun _ _ => rfl) rfl
    have d1 : w2.cell? ⟨g, 1, none⟩ = some (.slice A F.length c) := s1.cell 1
    have d2 : w2.cell? ⟨g, 2, none⟩ = some (.int .i64 nx) := s1.cell 2
    by_cases hq : q = nx
    · subst hq
      have HR3 : Hid (R = if k ≠ 2 ∧ (F.length : Int) ≤ f then (4, F, q)
        else (0, if k = 0 then setM F f.toNat v else if k = 1 then setC F f.toNat v else F0, q + 1)) := by
        unfold Hid
        rw [HR2.out, if_neg (by simp)]
      clear HR2
      by_cases hk : k = 2
      · subst hk
        have HR4 : Hid (R = (0, F0, q + 1)) := by unfold Hid; rw [HR3.out]; simp
        clear HR3
        obtain ⟨⟨hq0, hq1⟩, -⟩ := hmi.out
        go_wp2_with (go_quiet (fail))
        rename_i n1 K1 a1
        have h3 : StSt ((w2.drewN n1).drewN nq) g B F0 F q := h2
        have b3 : Blk ((w2.drewN n1).drewN nq) w.heap.size 29 #[.int .i64 q, .int .i64 2, .int .i64 f, .int .i64 v] := b2
        have hF3 : Fr (fun _ => False) w ((w2.drewN n1).drewN nq) := ((Fr.of_below hB2 _).drewN n1).drewN nq
        generalize (w2.drewN n1).drewN nq = wz at h3 b3 hF3 ⊢
        have z0 : wz.cell? ⟨w.heap.size, 0, none⟩ = some (.int .i64 q) := b3.cell 0
        have z1 : wz.cell? ⟨w.heap.size, 1, none⟩ = some (.int .i64 2) := b3.cell 1
        have z2 : wz.cell? ⟨w.heap.size, 2, none⟩ = some (.int .i64 f) := b3.cell 2
        have z3 : wz.cell? ⟨w.heap.size, 3, none⟩ = some (.int .i64 v) := b3.cell 3
        have hpl := b3.lt
        refine wp_region_last (fun _ => False) [3, 1] (by kernel_rfl) (by kernel_rfl) ?_
        simp only [wpSegs, List.take, List.drop]
        repeat (go_big_quiet_step (fail))
        refine wpQuiet_nil (wpHead_want rfl (fun K' hK' => ?_))
        go_wp2_with fail
        refine (act_any (w := wz.drew) (.pointer (some ⟨g, 0, none⟩)) rfl 2).mono ?_
        rintro e w3 ⟨rfl, rfl⟩
        refine hK' _ _ rfl (fr_graft (Fr.drew (Fr.refl _ wz))) ?_
        clear hK' K'
        try simp only [wpSegs, List.take, List.drop]
        repeat (go_big_quiet_step (fail))
        refine wpQuiet_nil (wpHead_last rfl (fun K' hK' => ?_))
        have ha : actV (.pointer (some ⟨g, 0, none⟩)) 2 = .func (.func 49) #[.pointer (some ⟨g, 0, none⟩)] #[] := rfl
        rw [ha]
        clear ha
        go_wp2_with fail
        refine (reset_any (w := wz.drew) h3.drew).mono ?_
        rintro e w4 ⟨rfl, st4, hf4, hg4⟩
        have hrz : rowB wz g = rowB w g := rowB_cell (hF3.cell (p := ⟨g, 1, none⟩) hgw (fun h => h))
        have q4 : Fr (fun k => k = g ∨ rowB w g = some k) w w4 := (hF3.mono (fun k _ h => h.elim)).trans ((Fr.drew (Fr.refl _ wz)).trans (hg4.1.mono (fun k _ h => by rw [show rowB wz.drew g = rowB w g from hrz] at h; exact h)))
        have r4 := hg4.2
        rw [show rowB wz.drew g = rowB w g from hrz] at r4
        have hzs : w.heap.size ≤ wz.drew.heap.size := hF3.size
        replace hf4 : Fr (fun k => k = g ∨ B ≤ k) wz w4 := (Fr.drew (Fr.refl _ wz)).trans hf4
        refine hK' _ _ rfl ?_
        clear hK' K'
        refine wpQuiet_nil ?_
        have hst := st4.step (q + 1)
        obtain ⟨A5, c5, v5, t1, -⟩ := st4
        have e2 : w4.cell? ⟨g, 2, none⟩ = some (.int .i64 q) := t1.cell 2
        have e3 : w4.cell? ⟨g, 3, none⟩ = some (.int .i64 q) := t1.cell 3
        have f2 := t1.frozen 2
        have f3 := t1.frozen 3
        have hgl := t1.lt
        go_wp2_with fail
        go_ret
        exact ⟨by rw [HR4.out]; rfl, by rw [HR4.out]; exact hst.1, ((hF3.mono (fun k _ h => h.elim)).trans hf4).trans (hst.2.1.mono (fun k _ h => .inl h)), q4.trans (hst.2.1.mono (fun k _ h => .inl h)), fun k hk => by
          rw [hst.2.2] at hk
          rcases r4 k hk with h | h
          · exact .inl h
          · exact .inr (Nat.le_trans hzs h)⟩
      · by_cases hl : (F.length : Int) ≤ f
        · have HR4 : Hid (R = (4, F, q)) := by unfold Hid; rw [HR3.out, if_pos ⟨hk, hl⟩]
          clear HR3
          have hk' : (k == 2) = false := by simpa using hk
          go_wp2_with (go_quiet (fail))
          go_ret
          exact ⟨by rw [HR4.out]; rfl, by rw [HR4.out]; exact h2, ((Fr.of_below hB2 _).drewN _).drewN _, StFr.of_fr (((Fr.of_below hB2 _).drewN _).drewN _) hgw⟩
        · obtain ⟨i, rfl⟩ : ∃ i : Nat, f = (i : Int) := ⟨f.toNat, by have := hmi.out; omega⟩
          have hi : i < F.length := by omega
          have HR4' : Hid (R = (0, if k = 0 then setM F i v else if k = 1 then setC F i v else F0, q + 1)) := by unfold Hid; rw [HR3.out, if_neg (by omega)]; rfl
          clear HR3
          have h01 : k = 0 ∨ k = 1 := by have := hmi.out; omega
          clear hl
          have hin : ¬ ((F.length : Int) ≤ (i : Int)) := by omega
          rcases h01 with rfl | rfl
          · have HR4 : Hid (R = (0, setM F i v, q + 1)) := HR4'
            clear HR4' hk
            obtain ⟨⟨hq0, hq1⟩, -⟩ := hmi.out
            go_wp2_with (go_quiet (fail))
            rename_i n1 hx1 K1 a1
            have h3 : StSt ((w2.drewN n1).drewN nq) g B F0 F q := h2
            have b3 : Blk ((w2.drewN n1).drewN nq) w.heap.size 29 #[.int .i64 q, .int .i64 0, .int .i64 (i : Int), .int .i64 v] := b2
            have hF3 : Fr (fun _ => False) w ((w2.drewN n1).drewN nq) := ((Fr.of_below hB2 _).drewN n1).drewN nq
            generalize (w2.drewN n1).drewN nq = wz at h3 b3 hF3 ⊢
            have z0 : wz.cell? ⟨w.heap.size, 0, none⟩ = some (.int .i64 q) := b3.cell 0
            have z1 : wz.cell? ⟨w.heap.size, 1, none⟩ = some (.int .i64 0) := b3.cell 1
            have z2 : wz.cell? ⟨w.heap.size, 2, none⟩ = some (.int .i64 (i : Int)) := b3.cell 2
            have z3 : wz.cell? ⟨w.heap.size, 3, none⟩ = some (.int .i64 v) := b3.cell 3
            have hpl := b3.lt
            refine wp_region_last (fun _ => False) [3, 1] (by kernel_rfl) (by kernel_rfl) ?_
            simp only [wpSegs, List.take, List.drop]
            repeat (go_big_quiet_step (fail))
            refine wpQuiet_nil (wpHead_want rfl (fun K' hK' => ?_))
            go_wp2_with fail
            refine (act_any (w := wz.drew) (.pointer (some ⟨g, 0, none⟩)) rfl 0).mono ?_
            rintro e w3 ⟨rfl, rfl⟩
            refine hK' _ _ rfl (fr_graft (Fr.drew (Fr.refl _ wz))) ?_
            clear hK' K'
            try simp only [wpSegs, List.take, List.drop]
            repeat (go_big_quiet_step (fail))
            refine wpQuiet_nil (wpHead_last rfl (fun K' hK' => ?_))
            have ha : actV (.pointer (some ⟨g, 0, none⟩)) 0 = .func (.func 47) #[.pointer (some ⟨g, 0, none⟩)] #[] := rfl
            rw [ha]
            clear ha
            go_wp2_with fail
            refine (mode_any (w := wz.drew) h3.drew hi).mono ?_
            rintro e w4 ⟨rfl, st4, hf4, hg4⟩
            have hrz : rowB wz g = rowB w g := rowB_cell (hF3.cell (p := ⟨g, 1, none⟩) hgw (fun h => h))
            have q4 : Fr (fun k => k = g ∨ rowB w g = some k) w w4 := (hF3.mono (fun k _ h => h.elim)).trans ((Fr.drew (Fr.refl _ wz)).trans (hg4.1.mono (fun k _ h => by rw [show rowB wz.drew g = rowB w g from hrz] at h; exact h)))
            have r4 := hg4.2
            rw [show rowB wz.drew g = rowB w g from hrz] at r4
            have hzs : w.heap.size ≤ wz.drew.heap.size := hF3.size
            replace hf4 : Fr (fun k => k = g ∨ B ≤ k) wz w4 := (Fr.drew (Fr.refl _ wz)).trans hf4
            refine hK' _ _ rfl ?_
            clear hK' K'
            refine wpQuiet_nil ?_
            have hst := st4.step (q + 1)
            obtain ⟨A5, c5, v5, t1, -⟩ := st4
            have e2 : w4.cell? ⟨g, 2, none⟩ = some (.int .i64 q) := t1.cell 2
            have e3 : w4.cell? ⟨g, 3, none⟩ = some (.int .i64 q) := t1.cell 3
            have f2 := t1.frozen 2
            have f3 := t1.frozen 3
            have hgl := t1.lt
            go_wp2_with fail
            go_ret
            exact ⟨by rw [HR4.out]; rfl, by rw [HR4.out]; exact hst.1, ((hF3.mono (fun k _ h => h.elim)).trans hf4).trans (hst.2.1.mono (fun k _ h => .inl h)), q4.trans (hst.2.1.mono (fun k _ h => .inl h)), fun k hk => by
              rw [hst.2.2] at hk
              rcases r4 k hk with h | h
              · exact .inl h
              · exact .inr (Nat.le_trans hzs h)⟩
          · have HR4 : Hid (R = (0, setC F i v, q + 1)) := HR4'
            clear HR4' hk
            obtain ⟨⟨hq0, hq1⟩, -⟩ := hmi.out
            go_wp2_with (go_quiet (fail))
            rename_i n1 hx1 K1 a1
            have h3 : StSt ((w2.drewN n1).drewN nq) g B F0 F q := h2
            have b3 : Blk ((w2.drewN n1).drewN nq) w.heap.size 29 #[.int .i64 q, .int .i64 1, .int .i64 (i : Int), .int .i64 v] := b2
            have hF3 : Fr (fun _ => False) w ((w2.drewN n1).drewN nq) := ((Fr.of_below hB2 _).drewN n1).drewN nq
            generalize (w2.drewN n1).drewN nq = wz at h3 b3 hF3 ⊢
            have z0 : wz.cell? ⟨w.heap.size, 0, none⟩ = some (.int .i64 q) := b3.cell 0
            have z1 : wz.cell? ⟨w.heap.size, 1, none⟩ = some (.int .i64 1) := b3.cell 1
            have z2 : wz.cell? ⟨w.heap.size, 2, none⟩ = some (.int .i64 (i : Int)) := b3.cell 2
            have z3 : wz.cell? ⟨w.heap.size, 3, none⟩ = some (.int .i64 v) := b3.cell 3
            have hpl := b3.lt
            refine wp_region_last (fun _ => False) [3, 1] (by kernel_rfl) (by kernel_rfl) ?_
            simp only [wpSegs, List.take, List.drop]
            repeat (go_big_quiet_step (fail))
            refine wpQuiet_nil (wpHead_want rfl (fun K' hK' => ?_))
            go_wp2_with fail
            refine (act_any (w := wz.drew) (.pointer (some ⟨g, 0, none⟩)) rfl 1).mono ?_
            rintro e w3 ⟨rfl, rfl⟩
            refine hK' _ _ rfl (fr_graft (Fr.drew (Fr.refl _ wz))) ?_
            clear hK' K'
            try simp only [wpSegs, List.take, List.drop]
            repeat (go_big_quiet_step (fail))
            refine wpQuiet_nil (wpHead_last rfl (fun K' hK' => ?_))
            have ha : actV (.pointer (some ⟨g, 0, none⟩)) 1 = .func (.func 48) #[.pointer (some ⟨g, 0, none⟩)] #[] := rfl
            rw [ha]
            clear ha
            go_wp2_with fail
            refine (choice_any (w := wz.drew) h3.drew hi).mono ?_
            rintro e w4 ⟨rfl, st4, hf4, hg4⟩
            have hrz : rowB wz g = rowB w g := rowB_cell (hF3.cell (p := ⟨g, 1, none⟩) hgw (fun h => h))
            have q4 : Fr (fun k => k = g ∨ rowB w g = some k) w w4 := (hF3.mono (fun k _ h => h.elim)).trans ((Fr.drew (Fr.refl _ wz)).trans (hg4.1.mono (fun k _ h => by rw [show rowB wz.drew g = rowB w g from hrz] at h; exact h)))
            have r4 := hg4.2
            rw [show rowB wz.drew g = rowB w g from hrz] at r4
            have hzs : w.heap.size ≤ wz.drew.heap.size := hF3.size
            replace hf4 : Fr (fun k => k = g ∨ B ≤ k) wz w4 := (Fr.drew (Fr.refl _ wz)).trans hf4
            refine hK' _ _ rfl ?_
            clear hK' K'
            refine wpQuiet_nil ?_
            have hst := st4.step (q + 1)
            obtain ⟨A5, c5, v5, t1, -⟩ := st4
            have e2 : w4.cell? ⟨g, 2, none⟩ = some (.int .i64 q) := t1.cell 2
            have e3 : w4.cell? ⟨g, 3, none⟩ = some (.int .i64 q) := t1.cell 3
            have f2 := t1.frozen 2
            have f3 := t1.frozen 3
            have hgl := t1.lt
            go_wp2_with fail
            go_ret
            exact ⟨by rw [HR4.out]; rfl, by rw [HR4.out]; exact hst.1, ((hF3.mono (fun k _ h => h.elim)).trans hf4).trans (hst.2.1.mono (fun k _ h => .inl h)), q4.trans (hst.2.1.mono (fun k _ h => .inl h)), fun k hk => by
              rw [hst.2.2] at hk
              rcases r4 k hk with h | h
              · exact .inl h
              · exact .inr (Nat.le_trans hzs h)⟩
    · have HR4 : Hid (R = (14, F, nx)) := by unfold Hid; rw [HR2.out, if_pos hq]
      clear HR2
      have hq' : (q == nx) = false := by simpa using hq
      go_wp2_with (go_quiet (fail))
      go_ret
      exact ⟨by rw [HR4.out]; rfl, by rw [HR4.out]; exact h2, (Fr.of_below hB2 _).drewN _, StFr.of_fr ((Fr.of_below hB2 _).drewN _) hgw⟩
end Go.Proofs.Ytolohbgfhledoaa
