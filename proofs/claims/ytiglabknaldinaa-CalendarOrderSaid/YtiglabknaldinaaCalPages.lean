/- calendar's Pages. -/
import Derived.Test.YtiglabknaldinaaCalIter
namespace Go.Proofs.Ytiglabknaldinaa
open Go.RowKit Go.Shelf
attribute [local go_sem] Oper.semAt_some
def encS (all : List St) (k : Nat) : Array Value := #[(atD St0 all k).v]
theorem pages_any {x : Cf} {L : Hd Fm} {wa w : World} (hx : x.ok wa) (hL : rdFms.ok wa L) (hwa : Below wa.heap.size wa w) (R : Nat → Prop) (hR : ∀ b, R b → b < w.heap.size) :
    Calls Try.prog 18 #[x.v, L.v] w fun e w' => ∃ bl bc, e = .returned (.func (.func 22) #[] #[.pointer (some ⟨bl, 0, none⟩), .pointer (some ⟨bc, 0, none⟩)]) ∧
      SeqT Try.prog 22 #[.pointer (some ⟨bl, 0, none⟩), .pointer (some ⟨bc, 0, none⟩)] (encP (pagesS x Pg0 L.l)) (pagesS x Pg0 L.l).length (fun b => b < wa.heap.size ∨ b = bl ∨ b = bc ∨ R b) w' ∧ Below w.heap.size w w' ∧ w.heap.size ≤ bl ∧ w.heap.size ≤ bc ∧ bl < w'.heap.size ∧ bc < w'.heap.size := by
  simp only [Cf.v, Hd.v]
  go_enter Try.func18, Try.ntmps18
  go_wp2_with fail
  go_ret
  have hb := ((Below.refl w.heap.size w).alloc (Nat.le_refl _) (.cells #[.slice x.parts.A x.parts.l.length x.parts.c, .slice x.chans.A x.chans.l.length x.chans.c, .slice x.modes.A x.modes.l.length x.modes.c, .slice x.pw.levels.A x.pw.levels.l.length x.pw.levels.c, .slice x.pw.naps.A x.pw.naps.l.length x.pw.naps.c, .int .i64 x.pw.sw, .int .i64 x.pw.idle, .int .i64 x.pw.change, .int .i64 x.pw.quant, .int .i64 x.pw.slow, .int .i64 x.pw.ppm, .slice x.shed.down.A x.shed.down.l.length x.shed.down.c, .slice x.shed.up.A x.shed.up.l.length x.shed.up.c] 33)).alloc (by simp) (.cells #[.slice L.A L.l.length L.c] 34)
  have kc := (Blk.new w 33 #[.slice x.parts.A x.parts.l.length x.parts.c, .slice x.chans.A x.chans.l.length x.chans.c, .slice x.modes.A x.modes.l.length x.modes.c, .slice x.pw.levels.A x.pw.levels.l.length x.pw.levels.c, .slice x.pw.naps.A x.pw.naps.l.length x.pw.naps.c, .int .i64 x.pw.sw, .int .i64 x.pw.idle, .int .i64 x.pw.change, .int .i64 x.pw.quant, .int .i64 x.pw.slow, .int .i64 x.pw.ppm, .slice x.shed.down.A x.shed.down.l.length x.shed.down.c, .slice x.shed.up.A x.shed.up.l.length x.shed.up.c]).alloc (.cells #[.slice L.A L.l.length L.c] 34)
  have kl := Blk.new (w.alloc (.cells #[.slice x.parts.A x.parts.l.length x.parts.c, .slice x.chans.A x.chans.l.length x.chans.c, .slice x.modes.A x.modes.l.length x.modes.c, .slice x.pw.levels.A x.pw.levels.l.length x.pw.levels.c, .slice x.pw.naps.A x.pw.naps.l.length x.pw.naps.c, .int .i64 x.pw.sw, .int .i64 x.pw.idle, .int .i64 x.pw.change, .int .i64 x.pw.quant, .int .i64 x.pw.slow, .int .i64 x.pw.ppm, .slice x.shed.down.A x.shed.down.l.length x.shed.down.c, .slice x.shed.up.A x.shed.up.l.length x.shed.up.c] 33)) 34 #[.slice L.A L.l.length L.c]
  rw [World.size_alloc] at kl
  exact ⟨_, _, rfl, pages1_seq hx hL (hwa.trans (hb.mono hwa.size)) kl kc (fun b h => .inl h) (.inr (.inl rfl)) (.inr (.inr (.inl rfl))) (fun b h => by
    have h1 := hwa.size
    have h2 := kl.lt
    have h3 := kc.lt
    rcases h with h | rfl | rfl | h
    · simp; omega
    · exact h2
    · exact h3
    · have := hR b h; simp; omega), hb, by omega, Nat.le_refl _, kl.lt, kc.lt⟩
theorem pgG_info : (Try.prog.info? 42).map (fun i => (i.zero, i.size, i.bytes)) = some (some (.agg #[.int .i64 0, .int .i64 0, .int .i64 0, .int .i64 0]), 4, 32) := by kernel_rfl
theorem pages_len (x : Cf) : ∀ (p : Pg) (l : List Fm), (pagesS x p l).length ≤ l.length
  | _, [] => Nat.le_refl _
  | p, f :: fs => by
    unfold pagesS
    split
    · simp
    · rename_i q _
      have := pages_len x q fs
      simp
      omega
theorem pgF_len (l : List Pg) : (l.flatMap Pg.f).length = l.length * 4 := flat_len l (fun _ _ => rfl)
set_option maxRecDepth 100000 in
set_option maxHeartbeats 3200000 in
theorem Pages_any {x : Cf} {L : Hd Fm} {w : World} (hx : x.ok w) (hL : rdFms.ok w L) (h100 : L.l.length ≤ 1000) :
    Calls Try.prog 9 #[x.v, L.v] w fun e w' => ∃ v, e = .returned v ∧ w'.ownsRow w.heap.size 42 4 v (pagesS x Pg0 L.l).length ((pagesS x Pg0 L.l).flatMap Pg.f) ∧ Below w.heap.size w w' := by
  obtain ⟨i0, hi0, hz0, hz1, hz2⟩ := info_parts pgG_info
  have hu : Try.prog.underlying 37 = some (.slice 42) := by kernel_rfl
  have hN := pages_len x Pg0 L.l
  simp only [Cf.v, Hd.v]
  refine (callsIn_wide (n := 1)).1 (callsIn_of_wp_marks Try.func9 rfl trivial ?_ rfl)
  simp only [Try.ntmps9, List.size_toArray, List.length_cons, List.length_nil, Nat.reduceAdd, Nat.reduceSub, Array.replicate_succ, Array.replicate_zero, List.push_toArray, List.append_toArray, List.nil_append, List.cons_append]
  have hb := ((Below.refl w.heap.size w).alloc (Nat.le_refl _) (.cells #[.slice x.parts.A x.parts.l.length x.parts.c, .slice x.chans.A x.chans.l.length x.chans.c, .slice x.modes.A x.modes.l.length x.modes.c, .slice x.pw.levels.A x.pw.levels.l.length x.pw.levels.c, .slice x.pw.naps.A x.pw.naps.l.length x.pw.naps.c, .int .i64 x.pw.sw, .int .i64 x.pw.idle, .int .i64 x.pw.change, .int .i64 x.pw.quant, .int .i64 x.pw.slow, .int .i64 x.pw.ppm, .slice x.shed.down.A x.shed.down.l.length x.shed.down.c, .slice x.shed.up.A x.shed.up.l.length x.shed.up.c] 33)).alloc (by simp) (.cells #[.slice none 0 0] 37)
  have ko := Blk.new (w.alloc (.cells #[.slice x.parts.A x.parts.l.length x.parts.c, .slice x.chans.A x.chans.l.length x.chans.c, .slice x.modes.A x.modes.l.length x.modes.c, .slice x.pw.levels.A x.pw.levels.l.length x.pw.levels.c, .slice x.pw.naps.A x.pw.naps.l.length x.pw.naps.c, .int .i64 x.pw.sw, .int .i64 x.pw.idle, .int .i64 x.pw.change, .int .i64 x.pw.quant, .int .i64 x.pw.slow, .int .i64 x.pw.ppm, .slice x.shed.down.A x.shed.down.l.length x.shed.down.c, .slice x.shed.up.A x.shed.up.l.length x.shed.up.c] 33)) 37 #[.slice none 0 0]
  gi_wp2
  generalize (w.alloc (.cells #[.slice x.parts.A x.parts.l.length x.parts.c, .slice x.chans.A x.chans.l.length x.chans.c, .slice x.modes.A x.modes.l.length x.modes.c, .slice x.pw.levels.A x.pw.levels.l.length x.pw.levels.c, .slice x.pw.naps.A x.pw.naps.l.length x.pw.naps.c, .int .i64 x.pw.sw, .int .i64 x.pw.idle, .int .i64 x.pw.change, .int .i64 x.pw.quant, .int .i64 x.pw.slow, .int .i64 x.pw.ppm, .slice x.shed.down.A x.shed.down.l.length x.shed.down.c, .slice x.shed.up.A x.shed.up.l.length x.shed.up.c] 33)).alloc (.cells #[.slice none 0 0] 37) = w1 at hb ko ⊢
  rw [World.size_alloc] at ko
  have hl1 := ko.lt
  refine ⟨trivial, callsIn_wide.2 ((pages_any (w := w1) hx hL hb (fun _ => False) (fun b h => h.elim)).mono ?_)⟩
  rintro e w2 ⟨bl, bc, rfl, hseq, hb2, hbl, hbc, hbl2, hbc2⟩
  have ko2 := ko.keep hb2
  have hB2 := hb.trans (hb2.mono hb.size)
  have hs2 := hb2.size
  have hs9 := hB2.size
  clear hb ko
  clear hb2
  gi_wp2
  refine wp_range (gf := 22) rfl (enters_of Try.func22 (by kernel_rfl) rfl) hseq (fun b h => by rcases h with h | h | h | h <;> first | omega | exact h.elim) (Fr.refl _ _) (fun _ => rfl)
    (fun k T W => ∃ v, Blk W (w.heap.size + 1) 37 #[v] ∧ W.ownsRow (w.heap.size + 2) 42 4 v k (((pagesS x Pg0 L.l).take k).flatMap Pg.f) ∧ T (w.heap.size + 1) ∧ ∀ b, v.ownBlock = some b → T b)
    (fun _ _ _ _ => False) ?_ (fun _ _ _ _ _ h _ => h) (fun b => b = w.heap.size + 1) (fun b h h' => by rcases h' with h' | h' | h' | h' <;> first | omega | exact h'.elim) (fun b h => by have := ko2.lt; omega)
    ⟨.slice none 0 0, ko2, World.ownsRow_nil _ _ _ _, rfl, fun b h => by cases h⟩
    (fun k a' T W => ∃ g v, a' = { tmps := #[.agg #[.slice x.parts.A x.parts.l.length x.parts.c, .slice x.chans.A x.chans.l.length x.chans.c, .slice x.modes.A x.modes.l.length x.modes.c, .slice x.pw.levels.A x.pw.levels.l.length x.pw.levels.c, .slice x.pw.naps.A x.pw.naps.l.length x.pw.naps.c, .int .i64 x.pw.sw, .int .i64 x.pw.idle, .int .i64 x.pw.change, .int .i64 x.pw.quant, .int .i64 x.pw.slow, .int .i64 x.pw.ppm, .slice x.shed.down.A x.shed.down.l.length x.shed.down.c, .slice x.shed.up.A x.shed.up.l.length x.shed.up.c], .slice L.A L.l.length L.c, .pointer (some ⟨w.heap.size, 0, none⟩), undef, .slice none 0 0, .pointer (some ⟨w.heap.size + 1, 0, none⟩), .pointer (some ⟨g, 0, none⟩), .agg #[.slice x.parts.A x.parts.l.length x.parts.c, .slice x.chans.A x.chans.l.length x.chans.c, .slice x.modes.A x.modes.l.length x.modes.c, .slice x.pw.levels.A x.pw.levels.l.length x.pw.levels.c, .slice x.pw.naps.A x.pw.naps.l.length x.pw.naps.c, .int .i64 x.pw.sw, .int .i64 x.pw.idle, .int .i64 x.pw.change, .int .i64 x.pw.quant, .int .i64 x.pw.slow, .int .i64 x.pw.ppm, .slice x.shed.down.A x.shed.down.l.length x.shed.down.c, .slice x.shed.up.A x.shed.up.l.length x.shed.up.c], .slice L.A L.l.length L.c, .func (.func 22) #[] #[.pointer (some ⟨bl, 0, none⟩), .pointer (some ⟨bc, 0, none⟩)], .agg #[.int .i64 (atD Pg0 (pagesS x Pg0 L.l) k).at_, .int .i64 (atD Pg0 (pagesS x Pg0 L.l) k).end_, .int .i64 (atD Pg0 (pagesS x Pg0 L.l) k).mode, .int .i64 (atD Pg0 (pagesS x Pg0 L.l) k).level], undef, undef, undef, undef, undef], defers := [] } ∧ T g ∧ Blk W g 42 #[.int .i64 (atD Pg0 (pagesS x Pg0 L.l) k).at_, .int .i64 (atD Pg0 (pagesS x Pg0 L.l) k).end_, .int .i64 (atD Pg0 (pagesS x Pg0 L.l) k).mode, .int .i64 (atD Pg0 (pagesS x Pg0 L.l) k).level] ∧ g ≠ w.heap.size + 1 ∧ v.ownBlock ≠ some g ∧ Blk W (w.heap.size + 1) 37 #[v] ∧ W.ownsRow (w.heap.size + 2) 42 4 v k (((pagesS x Pg0 L.l).take k).flatMap Pg.f) ∧ T (w.heap.size + 1) ∧ ∀ b, v.ownBlock = some b → T b)
    ?_ ?_ ?_ ?_ ?_
  · rintro k T W W' ⟨v, h1, h2, h3, h4⟩ hf
    exact ⟨v, h1.fr hf (fun h => h.1 h3), own_fr h2 hf (fun b _ hb h => h.1 (h4 b hb)), h3, h4⟩
  · rintro a' k T W W' ⟨g, v, rfl, h0, h5, h6, h7, h1, h2, h3, h4⟩ hf
    exact ⟨g, v, rfl, h0, h5.fr hf (fun h => h.1 h0), h6, h7, h1.fr hf (fun h => h.1 h3), own_fr h2 hf (fun b _ hb h => h.1 (h4 b hb)), h3, h4⟩
  · rintro l k T W K hk ⟨v, h1, h2, h3, h4⟩ hT hK
    simp only [encP, Pg.v]
    gi_wp2
    have hbn := fun b h => (Grw.refl hT).trans (Nat.le_refl _) (fun (b : Nat) (h : T b ∨ b = W.heap.size) => (⟨by rcases h with h | h; exact .inl h; exact .inr (by omega), by rcases h with h | h; exact Nat.lt_of_lt_of_le (hT b h) (by simp); simp [h]⟩ : (T b ∨ W.heap.size ≤ b) ∧ b < (W.alloc (.cells #[.int .i64 (atD Pg0 (pagesS x Pg0 L.l) k).at_, .int .i64 (atD Pg0 (pagesS x Pg0 L.l) k).end_, .int .i64 (atD Pg0 (pagesS x Pg0 L.l) k).mode, .int .i64 (atD Pg0 (pagesS x Pg0 L.l) k).level] 42)).heap.size)) b h
    have hlo := h1.lt
    refine hK _ (fun b => T b ∨ b = W.heap.size) _ ((Fr.refl T W).alloc _) (fun b h => hbn b h) ⟨W.heap.size, v, rfl, .inr rfl, Blk.new _ _ _, by omega, (fun h => by have := (h2.lt _ h).2; omega), h1.alloc _, h2.alloc _, .inl h3, fun b hb => .inl (h4 b hb)⟩
  · rintro l k a' T W hk ⟨g, v, rfl, h0, h5, h6, h7, h1, h2, h3, h4⟩ hT
    have hv0 : W.cell? ⟨w.heap.size + 1, 0, none⟩ = some v := h1.cell 0
    have hg0 : W.cell? ⟨g, 0, none⟩ = some (.int .i64 (atD Pg0 (pagesS x Pg0 L.l) k).at_) := h5.cell 0
    have hg1 : W.cell? ⟨g, 1, none⟩ = some (.int .i64 (atD Pg0 (pagesS x Pg0 L.l) k).end_) := h5.cell 1
    have hg2 : W.cell? ⟨g, 2, none⟩ = some (.int .i64 (atD Pg0 (pagesS x Pg0 L.l) k).mode) := h5.cell 2
    have hg3 : W.cell? ⟨g, 3, none⟩ = some (.int .i64 (atD Pg0 (pagesS x Pg0 L.l) k).level) := h5.cell 3
    have hlo := h1.lt
    gi_wp2_with (gi_at_builtin; refine wpListIn_app W (by rfl) _ _ 37 (by rfl) (w.heap.size + 2) 42 i0 _ 4 32 1 hu hi0 hz0 hz1 hz2 rfl (by decide) (by decide) _ k _ (by rfl) h2 #[.int .i64 (atD Pg0 (pagesS x Pg0 L.l) k).at_, .int .i64 (atD Pg0 (pagesS x Pg0 L.l) k).end_, .int .i64 (atD Pg0 (pagesS x Pg0 L.l) k).mode, .int .i64 (atD Pg0 (pagesS x Pg0 L.l) k).level] rfl (by simp [Value.oneCell']) (by rfl) (by omega) (by omega) ?_; intro v' w4 hown4 hf4 hat4; obtain ⟨A', c', rfl, -, -⟩ := Sl.of_own hown4; have hb4 := h1.fr hf4 (fun e => own_ne h2 (show w.heap.size + 1 < w.heap.size + 2 by omega) e.symm); have hc4 : w4.cell? ⟨w.heap.size + 1, 0, none⟩ = some v := hb4.cell 0; have hz4 : w4.frozen? ⟨w.heap.size + 1, 0, none⟩ = false := hb4.frozen 0)
    have hs4 := hf4.size
    refine ⟨fun b => T b ∨ (W.heap.size ≤ b ∧ b < w4.heap.size), (hf4.mono (fun b _ h => h4 b h)).setCell (fun _ => h3) _, ?_, ⟨_, by simpa using hb4.set_ 0 (.slice A' (k + 1) c'), ?_, .inl h3, fun b hb => ?_⟩⟩
    · rintro b (h | h)
      · exact ⟨.inl h, by have := hT b h; simp; omega⟩
      · exact ⟨.inr h.1, by simpa using h.2⟩
    · rw [take_snocG Pg0 _ _ hk, List.flatMap_append]
      exact own_fr hown4 ((Fr.refl (· = w.heap.size + 1) w4).setCell (p := ⟨w.heap.size + 1, 0, none⟩) (fun _ => rfl) _) (fun b hb _ h => by omega)
    · have hlt := (hown4.lt _ hb).2
      rcases hat4 with h | ⟨g', h, hg'⟩
      · exact .inl (h4 b (h ▸ hb))
      · rw [h] at hb
        cases hb
        exact .inr ⟨hg', hlt⟩
  · rintro D T' W hD hnD hF hG ⟨v, h1, h2, h3, h4⟩ hK
    have hv0 : W.cell? ⟨w.heap.size + 1, 0, none⟩ = some v := h1.cell 0
    gi_wp2
    refine ⟨by simp, .inl ⟨_, _, rfl, run_takeDeferred hK, ?_⟩⟩
    refine ⟨_, results_tmp rfl _ _ _, v, rfl, ?_, ?_⟩
    · rw [List.take_length] at h2
      exact own_mono (ownsRow_putObj h2 _ hK rfl) (by omega)
    · exact hB2.trans ((hF.putObj (l := D) (fun h => by omega) _).below (fun b hb h => by omega) (by omega))
  · exact fun _ _ _ _ _ _ _ _ _ _ h _ => h.elim
end Go.Proofs.Ytiglabknaldinaa
