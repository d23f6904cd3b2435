/- The law GroundHears returns true whatever the input. -/
import Derived.Test.YtolohbgfhledoaaGrRef3
import Derived.Test.YtolohbgfhledoaaGrBack
import Derived.Test.YtolohbgfhledoaaGrArgs
import Derived.Test.YtolohbgfhledoaaMixB
namespace Go.Proofs.Ytolohbgfhledoaa
open Go.RowKit
def TT (w : World) (g k : Nat) : Prop := k = g ∨ rowB w g = some k
theorem StSt.row {w : World} {g B : Nat} {F0 F : List Fm} {nx : Int} (h : StSt w g B F0 F nx) : ∀ k, TT w g k → B ≤ k ∧ k < w.heap.size := by
  obtain ⟨A1, c1, v, h1, h2, h3, h4, h5, h6, h7⟩ := h
  rintro k (rfl | hk)
  · exact ⟨h5, h1.lt⟩
  · rw [rowB_of h1 rfl] at hk
    obtain ⟨_, ⟨rfl, _⟩ | ⟨o, cap, cur, rfl, ho, hh, _⟩⟩ := h4
    · cases hk
    · cases hk
      exact ⟨ho, (Array.getElem?_eq_some_iff.1 hh).1⟩
theorem StSt.fr_r {w w' : World} {g B r : Nat} {F0 F : List Fm} {nx : Int} (h : StSt w g B F0 F nx) (hf : Fr (fun k => k = r) w w') (hB : B ≤ r) (hr : ¬ TT w g r) : StSt w' g B F0 F nx ∧ rowB w' g = rowB w g := by
  obtain ⟨A1, c1, v, h1, h2, h3, h4, h5, h6, h7⟩ := h
  have hrg : ¬ g = r := fun e => hr (.inl e.symm)
  have hgl := h1.lt
  refine ⟨⟨A1, c1, v, h1.fr (S := fun k => k = r) hf hrg, SlG.fr (S := fun k => k = r) h2 hf (fun b o hp e h => by have := h3 b o hp e; have h : b = r := h; omega), h3, own_fr (S := fun k => k = r) h4 hf (fun k _ e hk => hr (.inr ?_)), h5, h6, h7⟩, rowB_cell (hf.cell (p := ⟨g, 1, none⟩) hgl hrg)⟩
  exact (rowB_of (v := v) h1 rfl).trans (e.trans (by rw [hk]))
set_option maxHeartbeats 3200000 in
set_option maxRecDepth 100000 in
theorem groundHears_law {w : World} {A : Option Addr} {n c : Nat} {F : List Fm} (hf : SlG w A n c 4 fmC F) {A2 : Option Addr} {m c2 : Nat} {L : List Pk} (hl : SlG w A2 m c2 4 pkC L) :
    Calls Try.prog 6 #[.slice A n c, .slice A2 m c2] w fun e w' => e = .returned (.bool true) ∧ Below w.heap.size w w' := by
  have hnm := hf.len
  have hmm := hl.len
  go_enter Try.func6, Try.ntmps6
  by_cases hn : n ≤ 100
  · have hn' : ¬ (100 : Int) < (n : Int) := by omega
    go_wp2_with fail
    refine (works_any _).mono ?_
    rintro e w1 ⟨rfl, hb1⟩
    have hf1 := hf.keep hb1
    go_wp2_with fail
    refine (newS_any hf1 (by omega)).mono ?_
    rintro e w2 ⟨g, B, rfl, hs2, hB, hb2⟩
    have hB2 := hb1.trans (hb2.mono hb1.size)
    have hf2 := hf.keep hB2
    have hrow2 := hs2.row
    have hbs := hb1.size
    go_wp2_with fail
    refine (newR_any hf2 (by omega) (TT w2 g) (fun k hk => (hrow2 k hk).2) (fun b o hp e hT => ?_)).mono ?_
    · have := (hrow2 b hT).1
      obtain ⟨b', o', e', hb', _⟩ := hf.1.at_ hp
      rw [e'] at e
      cases e
      omega
    rintro e w3 ⟨rfl, hr3, hb3⟩
    have hs3 := hs2.keep hb3
    have hB3 := hB2.trans (hb3.mono hB2.size)
    have hgl := (hrow2 g (.inl rfl)).2
    have hgB := (hrow2 g (.inl rfl)).1
    have hrow3 : rowB w3 g = rowB w2 g := rowB_cell ((bcell hb3).1 g 1 hgl)
    have hr3' : RSt w3 w2.heap.size (TT w3 g) (F.take 64) (F.take 64) 0 := hr3.rebase (fun k hk => .inl (by unfold TT at *; rwa [hrow3] at hk))
    have hBr : B ≤ w2.heap.size := by omega
    have hBw : w.heap.size ≤ B := by omega
    clear hr3 hs2 hb3 hrow2 hrow3 hf1 hb2 hf2 hb1 hB2 hbs hgl
    generalize w2.heap.size = r at hBr hr3' ⊢
    generalize F.take 64 = G at hs3 hr3' ⊢
    clear hf hnm hn hn'
    go_wp2_with fail
    go_loopw [7] (fun i wr => ∃ (j : Nat) (F : List Fm) (nx : Int), j ≤ m ∧ j ≤ 60 ∧ i = .int .i64 j ∧ StSt wr g B G F nx ∧ RSt wr r (TT wr g) G F nx ∧ Below w.heap.size w wr) (fun i _ => 60 - (intOf i).toNat)
    case atStart => exact ⟨0, G, 0, by omega, by omega, rfl, hs3, hr3', hB3⟩
    case round =>
      clear hs3 hr3' hB3
      obtain ⟨j, F, nx, hjm, hj, rfl, hs, hr, hbw⟩ := hrel
      by_cases hgo : j < m ∧ j < 60
      · obtain ⟨hg1, hg2⟩ := hgo
        have hg1' : (j : Int) < (m : Int) := by omega
        have hg2' : (j : Int) < 60 := by omega
        obtain ⟨pb, po, rfl, hpb, hpc⟩ := (hl.keep hbw).at_ pk0 (k := j) (by omega)
        have hnpb : ¬ (w.heap.size ≤ pb) := by
          obtain ⟨b', o', e', hb', _⟩ := hl.1.at_ (by omega)
          cases e'
          omega
        have p0 : wr.cell? ⟨pb, po + j * 4, none⟩ = some (.int .i64 (atD pk0 L j).q) := hpc 0 _ rfl
        have p1 : wr.cell? ⟨pb, po + j * 4 + 1, none⟩ = some (.int .i64 (atD pk0 L j).k) := hpc 1 _ rfl
        have p2 : wr.cell? ⟨pb, po + j * 4 + 2, none⟩ = some (.int .i64 (atD pk0 L j).f) := hpc 2 _ rfl
        have p3 : wr.cell? ⟨pb, po + j * 4 + 3, none⟩ = some (.int .i64 (atD pk0 L j).v) := hpc 3 _ rfl
        clear hpc
        generalize hp : atD pk0 L j = p at p0 p1 p2 p3
        clear hp
        go_wp2_with fail
        refine wp_region_bar (fun k => w.heap.size ≤ k) [(5, false), (0, false), (5, true), (3, false), (4, false), (4, false), (8, false)] (by kernel_rfl) (by kernel_rfl) ?_
        simp only [wpSegsB, List.take, List.drop]
        repeat (go_big_quiet_step (fail))
        refine wpQuiet_nil (wpHeadB_want rfl (fun K' hK' => ?_))
        go_wp2_with fail
        refine (of_any (w := wr.drew) (p := p)).mono ?_
        rintro e w5 ⟨rfl, hb5⟩
        replace hb5 : Below wr.heap.size wr w5 := (Below.drew (Below.refl _ wr)).trans hb5
        have hs5 := hs.keep hb5
        have hr5 := hr.keep hb5
        have hgl := (hs.row g (.inl rfl)).2
        have hrow5 : rowB w5 g = rowB wr g := rowB_cell ((bcell hb5).1 g 1 hgl)
        replace hr5 : RSt w5 r (TT w5 g) G F nx := hr5.rebase (fun k hk => .inl (by unfold TT at *; rwa [hrow5] at hk))
        have hsr := hs.row
        have hrl : r < wr.heap.size := by obtain ⟨_, _, _, _, h1, _⟩ := hr; exact h1.lt
        refine hK' _ _ rfl (fr_graft (Fr.of_below hb5 _)) ?_
        clear hK' K'
        try simp only [List.take, List.drop]
        repeat (go_big_quiet_step (fail))
        refine wpQuiet_nil (wpHeadB_want rfl (fun K' hK' => ?_))
        go_wp2_with fail
        refine (hear_any (p := p) hs5).mono ?_
        rintro e w6 ⟨rfl, hs6, hf6, hst6⟩
        have hbs := hb5.size
        have hbws := hbw.size
        have hF6 : Fr (fun k => w.heap.size ≤ k) wr w6 := (Fr.of_below hb5 _).trans (hf6.mono (fun k _ hk => by rcases hk with rfl | hk <;> omega))
        have hr6 : RSt w6 r (TT w6 g) G F nx := by
          have h1 : RSt w5 r (fun k => TT w5 g k ∨ TT w6 g k) G F nx := hr5.rebase (fun k hk => by
            rcases hk with hk | hk
            · exact .inl hk
            · rcases hk with rfl | hk
              · exact .inl (.inl rfl)
              · rcases hst6.2 k hk with h | h
                · exact .inl (.inr h)
                · exact .inr h)
          exact (h1.fr (hst6.1.mono (fun k _ hk => .inl hk))).rebase (fun k hk => .inl (.inr hk))
        refine hK' _ _ rfl (fr_graft hF6) ?_
        clear hK' K'
        try simp only [List.take, List.drop]
        repeat (go_big_quiet_step (fail))
        refine wpQuiet_nil (wpHeadB_bar rfl (fun K' hK' => ?_))
        go_wp2_with fail
        refine (hearRef_any (p := p) hr6 (fun k hk => (hs6.row k hk).2)).mono ?_
        rintro e w7 ⟨rfl, hr7, hf7⟩
        have hnr : ¬ TT w6 g r := by obtain ⟨_, _, _, _, _, _, _, h, _⟩ := hr6; exact h
        obtain ⟨hs7, hrow7⟩ := hs6.fr_r hf7 hBr hnr
        replace hr7 : RSt w7 r (TT w7 g) G (hearR G F nx p).2.1 (hearR G F nx p).2.2 := hr7.rebase (fun k hk => .inl (by unfold TT at *; rwa [hrow7] at hk))
        have hB7 : Below w.heap.size w w7 := by
          have := hF6.size
          exact hbw.trans ((hF6.below (B := w.heap.size) (fun k hk h => by omega) hbws).trans (hf7.below (B := w.heap.size) (fun k hk h => by have h : k = r := h; omega) (by omega)))
        refine hK' _ _ (fun _ => False) rfl ?_
        clear hK' K' hr6 hs6 hr5 hs5 hs hr hF6 hf6 hst6 hf7 hrow7 hrow5 hsr hnr hbw hbws hbs hb5 p0 p1 p2 p3 hgl hrl hpb hnpb
        generalize hearR G F nx p = R at hs7 hr7 ⊢
        obtain ⟨R1, F', nx'⟩ := R
        clear w6 w5
        obtain ⟨B1, d1, B2, d2, hrb, hrA, hrF, hr'⟩ := hr7
        have hrl := hrb.lt
        have r1 : w7.cell? ⟨r, 1, none⟩ = some (.slice B2 F'.length d2) := hrb.cell 1
        have r2 : w7.cell? ⟨r, 2, none⟩ = some (.int .i64 nx') := hrb.cell 2
        try simp only [List.take, List.drop]
        repeat (go_big_quiet_step (fail))
        refine wpQuiet_nil (wpHeadB_want rfl (fun K' hK' => ?_))
        go_wp2_with fail
        refine (frames_st hs7).mono ?_
        rintro e w8 ⟨v, rfl, hv, hb8⟩
        obtain ⟨V, vc, rfl, hV, -⟩ := SlG.of_own hv (fun _ _ => rfl) rfl
        refine hK' _ _ rfl (fr_graft (Fr.of_below hb8 _)) ?_
        clear hK' K'
        try simp only [List.take, List.drop]
        repeat (go_big_quiet_step (fail))
        refine wpQuiet_nil (wpHeadB_want rfl (fun K' hK' => ?_))
        go_wp2_with fail
        refine (sameR_any hV (hrF.keep hb8)).mono ?_
        rintro e w9 ⟨rfl, nq, rfl⟩
        have hb9 : Below w7.heap.size w7 (w8.drewN nq) := ((Fr.of_below hb8 (fun _ => False)).drewN nq).below (fun _ _ h => h) (Nat.le_refl _)
        have hs9 := hs7.keep hb9
        generalize w8.drewN nq = w9 at hb9 hs9 ⊢
        refine hK' _ _ rfl (fr_graft (Fr.of_below hb9 _)) ?_
        clear hK' K'
        try simp only [List.take, List.drop]
        repeat (go_big_quiet_step (fail))
        refine wpQuiet_nil (wpHeadB_want rfl (fun K' hK' => ?_))
        go_wp2_with fail
        refine (next_st hs9).mono ?_
        rintro e w10 ⟨rfl, rfl⟩
        refine hK' _ _ rfl (fr_graft (Fr.of_below hb9 _)) ?_
        clear hK' K'
        try simp only [List.take, List.drop]
        repeat (go_big_quiet_step (fail))
        refine wpQuiet_nil (wpHeadB_want rfl (fun K' hK' => ?_))
        go_wp2_with fail
        refine (heard_st hs9).mono ?_
        rintro e w10 ⟨rfl, rfl⟩
        refine hK' _ _ rfl (fr_graft (Fr.of_below hb9 _)) ?_
        clear hK' K'
        try simp only [wpSegsB]
        repeat (go_big_quiet_step (fail))
        refine wpQuiet_nil ?_
        have hr9 : RSt w9 r (TT w9 g) G F' nx' := by
          have h : RSt w7 r (TT w7 g) G F' nx' := ⟨B1, d1, B2, d2, hrb, hrA, hrF, hr'⟩
          exact (h.keep hb9).rebase (fun k hk => .inl (by
            have e9 : rowB w9 g = rowB w7 g := rowB_cell ((bcell hb9).1 g 1 (hs7.row g (.inl rfl)).2)
            unfold TT at *
            rwa [e9] at hk))
        have hB9 := hB7.trans (hb9.mono hB7.size)
        clear hr' hrA hrF hrb hs7 hB7 hb8 hb9 hv hV r1 r2 hrl
        go_wp2_with fail
        exact ⟨⟨j + 1, F', nx', by omega, by omega, by go_num, hs9, hr9, hB9⟩, by simp [intOf]; omega⟩
      · have hr0 := hr
        obtain ⟨B1, d1, B2, d2, hrb, hrA, hrF, hr'⟩ := hr
        have hrl := hrb.lt
        have r1 : wr.cell? ⟨r, 1, none⟩ = some (.slice B2 F.length d2) := hrb.cell 1
        by_cases hjm2 : j < m
        · have hj60 : ¬ ((j : Int) < 60) := by omega
          have hjm3 : (j : Int) < (m : Int) := by omega
          clear hgo hj hjm
          go_wp2_with fail
          refine wp_region_at (fun _ => False) [1, 4] (by kernel_rfl) (by kernel_rfl) ?_
          simp only [wpSegs, List.take, List.drop]
          repeat (go_big_quiet_step (fail))
          refine wpQuiet_nil (wpHead_want rfl (fun K' hK' => ?_))
          go_wp2_with fail
          refine (frames_st hs.drew).mono ?_
          rintro e w8 ⟨v, rfl, hv, hb8⟩
          replace hb8 : Below wr.heap.size wr w8 := (Below.drew (Below.refl _ wr)).trans hb8
          obtain ⟨V, vc, rfl, hV, -⟩ := SlG.of_own hv (fun _ _ => rfl) rfl
          refine hK' _ _ rfl (fr_graft (Fr.of_below hb8 _)) ?_
          clear hK' K'
          try simp only [List.take, List.drop]
          repeat (go_big_quiet_step (fail))
          refine wpQuiet_nil (wpHead_want rfl (fun K' hK' => ?_))
          go_wp2_with fail
          refine (sameR_any hV (hrF.keep hb8)).mono ?_
          rintro e w9 ⟨rfl, nq, rfl⟩
          have hb9 : Below wr.heap.size wr (w8.drewN nq) := ((Fr.of_below hb8 (fun _ => False)).drewN nq).below (fun _ _ h => h) (Nat.le_refl _)
          generalize w8.drewN nq = w9 at hb9 ⊢
          refine hK' _ _ rfl (fr_graft (Fr.of_below hb9 _)) ?_
          clear hK' K'
          try simp only [wpSegs]
          repeat (go_big_quiet_step (fail))
          refine wpQuiet_nil ?_
          go_wp2_with fail
          go_ret
          exact ⟨rfl, hbw.trans (hb9.mono hbw.size)⟩
        · have hjm3 : ¬ ((j : Int) < (m : Int)) := by omega
          clear hgo hj hjm
          go_wp2_with fail
          refine wp_region_at (fun _ => False) [1, 4] (by kernel_rfl) (by kernel_rfl) ?_
          simp only [wpSegs, List.take, List.drop]
          repeat (go_big_quiet_step (fail))
          refine wpQuiet_nil (wpHead_want rfl (fun K' hK' => ?_))
          go_wp2_with fail
          refine (frames_st hs.drew).mono ?_
          rintro e w8 ⟨v, rfl, hv, hb8⟩
          replace hb8 : Below wr.heap.size wr w8 := (Below.drew (Below.refl _ wr)).trans hb8
          obtain ⟨V, vc, rfl, hV, -⟩ := SlG.of_own hv (fun _ _ => rfl) rfl
          refine hK' _ _ rfl (fr_graft (Fr.of_below hb8 _)) ?_
          clear hK' K'
          try simp only [List.take, List.drop]
          repeat (go_big_quiet_step (fail))
          refine wpQuiet_nil (wpHead_want rfl (fun K' hK' => ?_))
          go_wp2_with fail
          refine (sameR_any hV (hrF.keep hb8)).mono ?_
          rintro e w9 ⟨rfl, nq, rfl⟩
          have hb9 : Below wr.heap.size wr (w8.drewN nq) := ((Fr.of_below hb8 (fun _ => False)).drewN nq).below (fun _ _ h => h) (Nat.le_refl _)
          generalize w8.drewN nq = w9 at hb9 ⊢
          refine hK' _ _ rfl (fr_graft (Fr.of_below hb9 _)) ?_
          clear hK' K'
          try simp only [wpSegs]
          repeat (go_big_quiet_step (fail))
          refine wpQuiet_nil ?_
          go_wp2_with fail
          go_ret
          exact ⟨rfl, hbw.trans (hb9.mono hbw.size)⟩
  · have hn' : (100 : Int) < (n : Int) := by omega
    go_wp2_with fail
    refine (works_any _).mono ?_
    rintro e w1 ⟨rfl, hb1⟩
    go_wp2_with fail
    go_ret
    exact ⟨rfl, hb1⟩
end Go.Proofs.Ytolohbgfhledoaa
