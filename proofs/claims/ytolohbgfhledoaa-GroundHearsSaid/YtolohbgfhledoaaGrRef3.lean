/- The walks of package ground's reference: Hear. -/
import Derived.Test.YtolohbgfhledoaaGrRef2
namespace Go.Proofs.Ytolohbgfhledoaa
open Go.RowKit
theorem RSt.fr {w w' : World} {r : Nat} {T : Nat → Prop} {F0 F : List Fm} {nx : Int} (h : RSt w r T F0 F nx) (hf : Fr T w w') : RSt w' r T F0 F nx := by
  obtain ⟨A1, c1, A2, c2, h1, h2, h3, h4, h5, h6, h7⟩ := h
  exact ⟨A1, c1, A2, c2, h1.fr hf h4, h2.fr hf (fun b o hp e => (h5 b o hp e).2), h3.fr hf (fun b o hp e => (h6 b o hp e).2), h4, h5, h6, h7⟩
theorem RSt.keep {w w' : World} {r : Nat} {T : Nat → Prop} {F0 F : List Fm} {nx : Int} (h : RSt w r T F0 F nx) (hb : Below w.heap.size w w') : RSt w' r T F0 F nx := by
  obtain ⟨A1, c1, A2, c2, h1, h2, h3, h4⟩ := h
  exact ⟨A1, c1, A2, c2, h1.keep hb, h2.keep hb, h3.keep hb, h4⟩
set_option maxRecDepth 100000 in
set_option maxHeartbeats 1600000 in
theorem hearRef_any {w : World} {r : Nat} {T : Nat → Prop} {F0 F : List Fm} {nx : Int} {p : Pk} (h : RSt w r T F0 F nx) (hT : ∀ k, T k → k < w.heap.size) :
    Calls Try.prog 19 #[.pointer (some ⟨r, 0, none⟩), p.val] w fun e w' => e = .returned (.int .i64 (hearR F0 F nx p).1) ∧ RSt w' r T F0 (hearR F0 F nx p).2.1 (hearR F0 F nx p).2.2 ∧ Fr (fun k => k = r) w w' := by
  have HR : Hid (hearR F0 F nx p = if mayP p = false then (2, F, nx) else if p.q ≠ nx then (14, F, nx) else if p.k ≠ 2 ∧ (F.length : Int) ≤ p.f then (4, F, nx)
    else (0, if p.k = 0 then setM F p.f.toNat p.v else if p.k = 1 then setC F p.f.toNat p.v else F0, nx + 1)) := rfl
  generalize hearR F0 F nx p = R at HR ⊢
  obtain ⟨q, k, f, v⟩ := p
  have hb0 := (Below.refl w.heap.size w).alloc (Nat.le_refl _) (.cells #[.int .i64 q, .int .i64 k, .int .i64 f, .int .i64 v] 23)
  have b1 := Blk.new w 23 #[.int .i64 q, .int .i64 k, .int .i64 f, .int .i64 v]
  have h0 := h.keep hb0
  show Calls Try.prog _ #[.pointer (some ⟨r, 0, none⟩), .agg #[.int .i64 q, .int .i64 k, .int .i64 f, .int .i64 v]] w _
  go_enter Try.func19, Try.ntmps19
  go_wp2_with fail
  generalize w.alloc (.cells #[.int .i64 q, .int .i64 k, .int .i64 f, .int .i64 v] 23) = w0 at b1 hb0 h0 ⊢
  have q0 : w0.cell? ⟨w.heap.size, 0, none⟩ = some (.int .i64 q) := b1.cell 0
  have q1 : w0.cell? ⟨w.heap.size, 1, none⟩ = some (.int .i64 k) := b1.cell 1
  have q2 : w0.cell? ⟨w.heap.size, 2, none⟩ = some (.int .i64 f) := b1.cell 2
  have q3 : w0.cell? ⟨w.heap.size, 3, none⟩ = some (.int .i64 v) := b1.cell 3
  go_wp2_with fail
  refine (mayR_any (p := ⟨q, k, f, v⟩)).mono ?_
  rintro e w2 ⟨rfl, hb2⟩
  have h2 := h0.keep hb2
  have b2 := b1.keep hb2
  have hB2 := hb0.trans (hb2.mono hb0.size)
  have p0 : w2.cell? ⟨w.heap.size, 0, none⟩ = some (.int .i64 q) := b2.cell 0
  have p1 : w2.cell? ⟨w.heap.size, 1, none⟩ = some (.int .i64 k) := b2.cell 1
  have p2 : w2.cell? ⟨w.heap.size, 2, none⟩ = some (.int .i64 f) := b2.cell 2
  have p3 : w2.cell? ⟨w.heap.size, 3, none⟩ = some (.int .i64 v) := b2.cell 3
  have hrw : r < w.heap.size := by obtain ⟨_, _, _, _, h1, _⟩ := h; exact h1.lt
  cases hm : mayP ⟨q, k, f, v⟩ with
  | false =>
    have HR4 : Hid (R = (2, F, nx)) := by unfold Hid; rw [HR.out, if_pos hm]
    clear HR hm
    go_wp2_with fail
    go_ret
    exact ⟨by rw [HR4.out]; rfl, by rw [HR4.out]; exact h2, Fr.of_below hB2 _⟩
  | true =>
    have hmi : Hid ((0 ≤ q ∧ q ≤ 1000000) ∧ (0 ≤ f ∧ f ≤ 1000000) ∧ 0 ≤ k ∧ k < 3) := mayP_iff.1 hm
    have HR2 : Hid (R = if q ≠ nx then (14, F, nx) else if k ≠ 2 ∧ (F.length : Int) ≤ f then (4, F, nx)
      else (0, if k = 0 then setM F f.toNat v else if k = 1 then setC F f.toNat v else F0, nx + 1)) := by
      unfold Hid
      rw [HR.out, if_neg (by rw [hm]; decide)]
    clear HR hm
    have hcp := h2
    obtain ⟨A1, c1, A2, c2, s1, s2, s3, s4, s5, s6, s7, s8⟩ := hcp
    have hr2 : r < w2.heap.size := s1.lt
    have hp2 : w.heap.size < w2.heap.size := b2.lt
    have hs5 := Lib.hid s5
    have hs6 := Lib.hid s6
    clear s5 s6
    have d1 : w2.cell? ⟨r, 1, none⟩ = some (.slice A2 F.length c2) := s1.cell 1
    have d2 : w2.cell? ⟨r, 2, none⟩ = some (.int .i64 nx) := s1.cell 2
    by_cases hq : q = nx
    · subst hq
      have HR3 : Hid (R = if k ≠ 2 ∧ (F.length : Int) ≤ f then (4, F, q)
        else (0, if k = 0 then setM F f.toNat v else if k = 1 then setC F f.toNat v else F0, q + 1)) := by
        unfold Hid
        rw [HR2.out, if_neg (by simp)]
      clear HR2
      by_cases hk : k = 2
      · subst hk
        have HR4 : Hid (R = (0, F0, q + 1)) := by unfold Hid; rw [HR3.out]; simp
        clear HR3
        obtain ⟨⟨hq0, hq1⟩, -⟩ := hmi.out
        have dA : ∀ m, ((w2.drewN m).alloc (.cells #[] 78)).cell? ⟨r, 1, none⟩ = some (.slice A2 F.length c2) := fun m => (Blk.alloc (w := w2.drewN m) s1 _).cell 1
        have hbe : ∀ m, Below w2.heap.size w2 ((w2.drewN m).alloc (.cells #[] 78)) := fun m => (((Fr.refl (fun _ => False) w2).drewN m).alloc _).below (fun _ _ h => h) (Nat.le_refl _)
        have hown0 : ∀ m, ((w2.drewN m).alloc (.cells #[] 78)).ownsRow w2.heap.size 78 4 (.slice (some ⟨w2.heap.size, 0, none⟩) 0 0) 0 [] := fun m => own_lit (w2.drewN m) 78 4
        have t3 : ∀ m, SlG ((w2.drewN m).alloc (.cells #[] 78)) A2 F.length c2 4 fmC F := fun m => s3.keep (hbe m)
        have hlz : 0 + F.length ≤ 1000000 := by omega
        have HZ := Lib.hid hlz
        have hlz0 : 0 + F0.length ≤ 1000000 := by omega
        have HZ0 := Lib.hid hlz0
        clear hlz hlz0
        go_wp2_with (first | go_quiet (fail) | (at_builtin; refine wpList_appF0 _ (by rfl) _ _ (by rfl) w2.heap.size _ 0 [] (by rfl) (hown0 _) A2 F.length c2 F (t3 _) (by rfl) HZ.out (hbe _).size ?_; intro v8 w8 hown8 hf8; replace hf8 : Below w2.heap.size w2 w8 := (hbe _).trans (hf8.below (fun k hk h => by have h' : some w2.heap.size = some k := h; injection h'; omega) (hbe _).size); rw [Nat.zero_add, List.nil_append] at hown8; clear dA hbe hown0 t3; have b8 := b2.keep hf8; have r8 := s1.keep hf8; have g8 := s2.keep hf8; have y1 : w8.cell? ⟨w.heap.size, 1, none⟩ = some (.int .i64 2) := b8.cell 1; have y2 : w8.cell? ⟨w.heap.size, 2, none⟩ = some (.int .i64 f) := b8.cell 2; have y3 : w8.cell? ⟨w.heap.size, 3, none⟩ = some (.int .i64 v) := b8.cell 3; have hr8 := r8.lt; have hp8 := b8.lt; have rB := r8.alloc (.cells #[] 78); have eB : (w8.alloc (.cells #[] 78)).cell? ⟨r, 0, none⟩ = some (.slice A1 F0.length c1) := rB.cell 0; have hbB : Below w8.heap.size w8 (w8.alloc (.cells #[] 78)) := (Below.refl w8.heap.size w8).alloc (Nat.le_refl _) (.cells #[] 78); have hownB := own_lit w8 78 4; have gB := g8.keep hbB) | (at_builtin; refine wpList_appF0 (w8.alloc (.cells #[] 78)) (by rfl) _ _ (by rfl) w8.heap.size _ 0 [] (by rfl) hownB A1 F0.length c1 F0 gB (by rfl) HZ0.out hbB.size ?_; intro v9 w9 hown9 hf9; replace hf9 : Below w8.heap.size w8 w9 := hbB.trans (hf9.below (fun k hk h => by have h' : some w8.heap.size = some k := h; injection h'; omega) hbB.size); rw [Nat.zero_add, List.nil_append] at hown9; obtain ⟨A9, c9, rfl, hs9, hA9⟩ := SlG.of_own hown9 (fun _ _ => rfl) rfl; clear hown9 hownB eB; have r9 := r8.keep hf9; have e92 : w9.cell? ⟨r, 2, none⟩ = some (.int .i64 q) := r9.cell 2; have e91 : w9.cell? ⟨r, 1, none⟩ = some (.slice A2 F.length c2) := r9.cell 1; have f91 := r9.frozen 1; have f92 := r9.frozen 2; have hr9 := r9.lt))
        go_ret
        have hbb := hB2.trans ((hf8.trans (hf9.mono hf8.size)).mono hB2.size)
        have hfS : Fr (fun j => j = r) w9 ((w9.setCell ⟨r, 1, none⟩ (.slice A9 F0.length c9)).setCell ⟨r, 2, none⟩ (.int .i64 (q + 1))) := ((Fr.refl (fun j => j = r) w9).setCell (p := ⟨r, 1, none⟩) (fun _ => rfl) _).setCell (p := ⟨r, 2, none⟩) (fun _ => rfl) _
        have hzz : w.heap.size ≤ w8.heap.size := (hB2.trans (hf8.mono hB2.size)).size
        have g9 := (g8.keep hf9)
        refine ⟨by rw [HR4.out]; rfl, ?_, (Fr.of_below hbb _).trans hfS⟩
        rw [HR4.out]
        refine ⟨A1, c1, A9, c9, (r9.set_ 1 _).set_ 2 _, SlG.fr (S := fun j => j = r) g9 hfS (fun b o hp e => (hs5.out b o hp e).1), SlG.fr (S := fun j => j = r) hs9 hfS (fun b o hp e h => by have := hA9 b o e; have h : b = r := h; omega), s4, hs5.out, fun b o hp e => ⟨by have := hA9 b o e; omega, fun h => by have := hA9 b o e; have := hT b h; omega⟩, s7, s7⟩
      · by_cases hl : (F.length : Int) ≤ f
        · have HR4 : Hid (R = (4, F, q)) := by unfold Hid; rw [HR3.out, if_pos ⟨hk, hl⟩]
          clear HR3
          have hk' : (k == 2) = false := by simpa using hk
          go_wp2_with (go_quiet (fail))
          go_ret
          exact ⟨by rw [HR4.out]; rfl, by rw [HR4.out]; exact h2, ((Fr.of_below hB2 _).drewN _).drewN _⟩
        · obtain ⟨i, rfl⟩ : ∃ i : Nat, f = (i : Int) := ⟨f.toNat, by have := hmi.out; omega⟩
          have hi : i < F.length := by omega
          have HR4' : Hid (R = (0, if k = 0 then setM F i v else if k = 1 then setC F i v else F0, q + 1)) := by unfold Hid; rw [HR3.out, if_neg (by omega)]; rfl
          clear HR3
          have h01 : k = 0 ∨ k = 1 := by have := hmi.out; omega
          clear hl
          have hin : ¬ ((F.length : Int) ≤ (i : Int)) := by omega
          have hin2 : (i : Int) < (F.length : Int) := by omega
          rcases h01 with rfl | rfl
          · have HR4 : Hid (R = (0, setM F i v, q + 1)) := HR4'
            clear HR4' hk
            have dA : ∀ m, ((w2.drewN m).alloc (.cells #[] 78)).cell? ⟨r, 1, none⟩ = some (.slice A2 F.length c2) := fun m => (Blk.alloc (w := w2.drewN m) s1 _).cell 1
            have hbe : ∀ m, Below w2.heap.size w2 ((w2.drewN m).alloc (.cells #[] 78)) := fun m => (((Fr.refl (fun _ => False) w2).drewN m).alloc _).below (fun _ _ h => h) (Nat.le_refl _)
            have hown0 : ∀ m, ((w2.drewN m).alloc (.cells #[] 78)).ownsRow w2.heap.size 78 4 (.slice (some ⟨w2.heap.size, 0, none⟩) 0 0) 0 [] := fun m => own_lit (w2.drewN m) 78 4
            have t3 : ∀ m, SlG ((w2.drewN m).alloc (.cells #[] 78)) A2 F.length c2 4 fmC F := fun m => s3.keep (hbe m)
            have hlz : 0 + F.length ≤ 1000000 := by omega
            have HZ := Lib.hid hlz
            have hl0 : 0 < F.length := by omega
            have HL0 := Lib.hid hl0
            have hfl := fmC_len F
            have HFL := Lib.hid hfl
            have HI := Lib.hid hi
            have HQ := hmi
            obtain ⟨⟨hq0, hq1⟩, -⟩ := hmi.out
            clear hlz hl0 hfl hmi
            go_wp2_with (first | go_quiet (fail) | (at_builtin; refine wpList_appF0 _ (by rfl) _ _ (by rfl) w2.heap.size _ 0 [] (by rfl) (hown0 _) A2 F.length c2 F (t3 _) (by rfl) HZ.out (hbe _).size ?_; intro v8 w8 hown8 hf8; replace hf8 : Below w2.heap.size w2 w8 := (hbe _).trans (hf8.below (fun k hk h => by have h' : some w2.heap.size = some k := h; injection h'; omega) (hbe _).size); rw [Nat.zero_add, List.nil_append] at hown8; clear dA hbe hown0 t3; obtain ⟨ob, cap, rfl, hob, hol⟩ := hown8.form HL0.out; have b8 := b2.keep hf8; have r8 := s1.keep hf8; have g8 := s2.keep hf8; have y1 : w8.cell? ⟨w.heap.size, 1, none⟩ = some (.int .i64 0) := b8.cell 1; have y2 : w8.cell? ⟨w.heap.size, 2, none⟩ = some (.int .i64 (i : Int)) := b8.cell 2; have y3 : w8.cell? ⟨w.heap.size, 3, none⟩ = some (.int .i64 v) := b8.cell 3; have hr8 := r8.lt; have hp8 := b8.lt; have hro : ¬ r = ob := (by omega); have hor : ¬ ob = r := (by omega); have e81 : w8.cell? ⟨r, 1, none⟩ = some (.slice A2 F.length c2) := r8.cell 1; have e82 : w8.cell? ⟨r, 2, none⟩ = some (.int .i64 q) := r8.cell 2; have f81 := r8.frozen 1; have f82 := r8.frozen 2; have ec := (hown8.cellAt (i * 4 + 1) (by have := HI.out; omega)).trans (flat_get (f := fmC) (sz := 4) fm0 F (fun _ _ => rfl) i 1 HI.out (by decide)); replace ec : w8.cell? ⟨ob, i * 4 + 1, none⟩ = some (.int .i64 (atD fm0 F i).m) := ec; have fc := hown8.frozenAt (i * 4 + 1)))
            go_ret
            obtain ⟨u1, u2⟩ := World.ownsRow.stored (w := w8) hown8 (i * 4 + 1) (.int .i64 v)
            rw [flat_setM F i HI.out] at u1
            have hfo : Fr (fun j => j = ob) w8 (w8.setCell ⟨ob, i * 4 + 1, none⟩ (.int .i64 v)) := (Fr.refl (fun j => j = ob) w8).setCell (p := ⟨ob, i * 4 + 1, none⟩) (fun _ => rfl) _
            have hbo : Below w2.heap.size w2 (w8.setCell ⟨ob, i * 4 + 1, none⟩ (.int .i64 v)) := hf8.trans (hfo.below (fun k hk h => by have h : k = ob := h; omega) hf8.size)
            have hbb := hB2.trans (hbo.mono hB2.size)
            have r9 := s1.keep hbo
            have g9 := s2.keep hbo
            generalize w8.setCell ⟨ob, i * 4 + 1, none⟩ (.int .i64 v) = w9 at u1 hbb r9 g9 ⊢
            obtain ⟨A9, c9, hA, hs9, -⟩ := SlG.of_own u1 (fun _ _ => rfl) (setM_len F i v)
            injection hA with hA1 _ hA2
            subst hA1
            subst hA2
            have hfS : Fr (fun j => j = r) w9 ((w9.setCell ⟨r, 1, none⟩ (.slice (some ⟨ob, 0, none⟩) F.length cap)).setCell ⟨r, 2, none⟩ (.int .i64 (q + 1))) := ((Fr.refl (fun j => j = r) w9).setCell (p := ⟨r, 1, none⟩) (fun _ => rfl) _).setCell (p := ⟨r, 2, none⟩) (fun _ => rfl) _
            have hzz := hB2.size
            refine ⟨by rw [HR4.out]; rfl, ?_, (Fr.of_below hbb _).trans hfS⟩
            rw [HR4.out]
            refine ⟨A1, c1, some ⟨ob, 0, none⟩, cap, ?_, SlG.fr (S := fun j => j = r) g9 hfS (fun b o hp e => (hs5.out b o hp e).1), ?_, s4, hs5.out, fun b o hp e => ?_, s7, ?_⟩
            · simp only [setM_len]
              exact (r9.set_ 1 _).set_ 2 _
            · simp only [setM_len]
              exact SlG.fr (S := fun j => j = r) hs9 hfS (fun b o hp e h => by cases e; exact hor h)
            · cases e
              exact ⟨hor, fun h => by have := hT ob h; omega⟩
            · simp only [setM_len]
              exact s8
          · have HR4 : Hid (R = (0, setC F i v, q + 1)) := HR4'
            clear HR4' hk
            have dA : ∀ m, ((w2.drewN m).alloc (.cells #[] 78)).cell? ⟨r, 1, none⟩ = some (.slice A2 F.length c2) := fun m => (Blk.alloc (w := w2.drewN m) s1 _).cell 1
            have hbe : ∀ m, Below w2.heap.size w2 ((w2.drewN m).alloc (.cells #[] 78)) := fun m => (((Fr.refl (fun _ => False) w2).drewN m).alloc _).below (fun _ _ h => h) (Nat.le_refl _)
            have hown0 : ∀ m, ((w2.drewN m).alloc (.cells #[] 78)).ownsRow w2.heap.size 78 4 (.slice (some ⟨w2.heap.size, 0, none⟩) 0 0) 0 [] := fun m => own_lit (w2.drewN m) 78 4
            have t3 : ∀ m, SlG ((w2.drewN m).alloc (.cells #[] 78)) A2 F.length c2 4 fmC F := fun m => s3.keep (hbe m)
            have hlz : 0 + F.length ≤ 1000000 := by omega
            have HZ := Lib.hid hlz
            have hl0 : 0 < F.length := by omega
            have HL0 := Lib.hid hl0
            have hfl := fmC_len F
            have HFL := Lib.hid hfl
            have HI := Lib.hid hi
            have HQ := hmi
            obtain ⟨⟨hq0, hq1⟩, -⟩ := hmi.out
            clear hlz hl0 hfl hmi
            go_wp2_with (first | go_quiet (fail) | (at_builtin; refine wpList_appF0 _ (by rfl) _ _ (by rfl) w2.heap.size _ 0 [] (by rfl) (hown0 _) A2 F.length c2 F (t3 _) (by rfl) HZ.out (hbe _).size ?_; intro v8 w8 hown8 hf8; replace hf8 : Below w2.heap.size w2 w8 := (hbe _).trans (hf8.below (fun k hk h => by have h' : some w2.heap.size = some k := h; injection h'; omega) (hbe _).size); rw [Nat.zero_add, List.nil_append] at hown8; clear dA hbe hown0 t3; obtain ⟨ob, cap, rfl, hob, hol⟩ := hown8.form HL0.out; have b8 := b2.keep hf8; have r8 := s1.keep hf8; have g8 := s2.keep hf8; have y1 : w8.cell? ⟨w.heap.size, 1, none⟩ = some (.int .i64 1) := b8.cell 1; have y2 : w8.cell? ⟨w.heap.size, 2, none⟩ = some (.int .i64 (i : Int)) := b8.cell 2; have y3 : w8.cell? ⟨w.heap.size, 3, none⟩ = some (.int .i64 v) := b8.cell 3; have hr8 := r8.lt; have hp8 := b8.lt; have hro : ¬ r = ob := (by omega); have hor : ¬ ob = r := (by omega); have e81 : w8.cell? ⟨r, 1, none⟩ = some (.slice A2 F.length c2) := r8.cell 1; have e82 : w8.cell? ⟨r, 2, none⟩ = some (.int .i64 q) := r8.cell 2; have f81 := r8.frozen 1; have f82 := r8.frozen 2; have ec := (hown8.cellAt (i * 4 + 3) (by have := HI.out; omega)).trans (flat_get (f := fmC) (sz := 4) fm0 F (fun _ _ => rfl) i 3 HI.out (by decide)); replace ec : w8.cell? ⟨ob, i * 4 + 3, none⟩ = some (.int .i64 (atD fm0 F i).c) := ec; have fc := hown8.frozenAt (i * 4 + 3)))
            go_ret
            obtain ⟨u1, u2⟩ := World.ownsRow.stored (w := w8) hown8 (i * 4 + 3) (.int .i64 v)
            rw [flat_setC F i HI.out] at u1
            have hfo : Fr (fun j => j = ob) w8 (w8.setCell ⟨ob, i * 4 + 3, none⟩ (.int .i64 v)) := (Fr.refl (fun j => j = ob) w8).setCell (p := ⟨ob, i * 4 + 3, none⟩) (fun _ => rfl) _
            have hbo : Below w2.heap.size w2 (w8.setCell ⟨ob, i * 4 + 3, none⟩ (.int .i64 v)) := hf8.trans (hfo.below (fun k hk h => by have h : k = ob := h; omega) hf8.size)
            have hbb := hB2.trans (hbo.mono hB2.size)
            have r9 := s1.keep hbo
            have g9 := s2.keep hbo
            generalize w8.setCell ⟨ob, i * 4 + 3, none⟩ (.int .i64 v) = w9 at u1 hbb r9 g9 ⊢
            obtain ⟨A9, c9, hA, hs9, -⟩ := SlG.of_own u1 (fun _ _ => rfl) (setC_len F i v)
            injection hA with hA1 _ hA2
            subst hA1
            subst hA2
            have hfS : Fr (fun j => j = r) w9 ((w9.setCell ⟨r, 1, none⟩ (.slice (some ⟨ob, 0, none⟩) F.length cap)).setCell ⟨r, 2, none⟩ (.int .i64 (q + 1))) := ((Fr.refl (fun j => j = r) w9).setCell (p := ⟨r, 1, none⟩) (fun _ => rfl) _).setCell (p := ⟨r, 2, none⟩) (fun _ => rfl) _
            have hzz := hB2.size
            refine ⟨by rw [HR4.out]; rfl, ?_, (Fr.of_below hbb _).trans hfS⟩
            rw [HR4.out]
            refine ⟨A1, c1, some ⟨ob, 0, none⟩, cap, ?_, SlG.fr (S := fun j => j = r) g9 hfS (fun b o hp e => (hs5.out b o hp e).1), ?_, s4, hs5.out, fun b o hp e => ?_, s7, ?_⟩
            · simp only [setC_len]
              exact (r9.set_ 1 _).set_ 2 _
            · simp only [setC_len]
              exact SlG.fr (S := fun j => j = r) hs9 hfS (fun b o hp e h => by cases e; exact hor h)
            · cases e
              exact ⟨hor, fun h => by have := hT ob h; omega⟩
            · simp only [setC_len]
              exact s8
    · have HR4 : Hid (R = (14, F, nx)) := by unfold Hid; rw [HR2.out, if_pos hq]
      clear HR2
      have hq' : (q == nx) = false := by simpa using hq
      go_wp2_with (go_quiet (fail))
      go_ret
      exact ⟨by rw [HR4.out]; rfl, by rw [HR4.out]; exact h2, (Fr.of_below hB2 _).drewN _⟩
theorem RSt.rebase {w : World} {r : Nat} {T T' : Nat → Prop} {F0 F : List Fm} {nx : Int} (h : RSt w r T F0 F nx) (hT : ∀ k, T' k → T k ∨ w.heap.size ≤ k) : RSt w r T' F0 F nx := by
  obtain ⟨A1, c1, A2, c2, h1, h2, h3, h4, h5, h6, h7⟩ := h
  have hr := h1.lt
  have hb : ∀ {A n c} {l : List Fm}, SlG w A n c 4 fmC l → ∀ b o, 0 < n → A = some ⟨b, o, none⟩ → b < w.heap.size := fun hs b o hp e => by
    obtain ⟨b', o', e', hb', _⟩ := hs.1.at_ hp
    rw [e'] at e
    cases e
    exact hb'
  refine ⟨A1, c1, A2, c2, h1, h2, h3, fun h => ?_, fun b o hp e => ⟨(h5 b o hp e).1, fun h => ?_⟩, fun b o hp e => ⟨(h6 b o hp e).1, fun h => ?_⟩, h7⟩
  · rcases hT r h with h | h
    · exact h4 h
    · omega
  · rcases hT b h with h | h
    · exact (h5 b o hp e).2 h
    · have := hb h2 b o hp e
      omega
  · rcases hT b h with h | h
    · exact (h6 b o hp e).2 h
    · have := hb h3 b o hp e
      omega
end Go.Proofs.Ytolohbgfhledoaa
