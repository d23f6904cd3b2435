/- calendar's Bounds and Windows. -/
import Derived.Test.YtiglabknaldinaaCalSlots
namespace Go.Proofs.Ytiglabknaldinaa
open Go.RowKit Go.Shelf
attribute [local go_sem] Oper.semAt_some
theorem slotsIt_any {x : Cf} {L : Hd Fm} {wa w : World} (hx : x.ok wa) (hL : rdFms.ok wa L) (hwa : Below wa.heap.size wa w) (h100 : ∀ m ∈ x.modes.l, m.wins.l.length ≤ 1000) :
    Calls Try.prog 21 #[x.v, L.v] w fun e w' => ∃ bl bc, e = .returned (.func (.func 30) #[] #[.pointer (some ⟨bc, 0, none⟩), .pointer (some ⟨bl, 0, none⟩)]) ∧
      SeqT Try.prog 30 #[.pointer (some ⟨bc, 0, none⟩), .pointer (some ⟨bl, 0, none⟩)] (encS (allS x (pagesS x Pg0 L.l))) (allS x (pagesS x Pg0 L.l)).length (fun b => b < wa.heap.size ∨ b = bl ∨ b = bc) w' ∧ Below w.heap.size w w' ∧ w.heap.size ≤ bl ∧ w.heap.size ≤ bc ∧ bl < w'.heap.size ∧ bc < w'.heap.size := by
  simp only [Cf.v, Hd.v]
  go_enter Try.func21, Try.ntmps21
  go_wp2_with fail
  go_ret
  have hb := ((Below.refl w.heap.size w).alloc (Nat.le_refl _) (.cells #[.slice x.parts.A x.parts.l.length x.parts.c, .slice x.chans.A x.chans.l.length x.chans.c, .slice x.modes.A x.modes.l.length x.modes.c, .slice x.pw.levels.A x.pw.levels.l.length x.pw.levels.c, .slice x.pw.naps.A x.pw.naps.l.length x.pw.naps.c, .int .i64 x.pw.sw, .int .i64 x.pw.idle, .int .i64 x.pw.change, .int .i64 x.pw.quant, .int .i64 x.pw.slow, .int .i64 x.pw.ppm, .slice x.shed.down.A x.shed.down.l.length x.shed.down.c, .slice x.shed.up.A x.shed.up.l.length x.shed.up.c] 33)).alloc (by simp) (.cells #[.slice L.A L.l.length L.c] 34)
  have kc := (Blk.new w 33 #[.slice x.parts.A x.parts.l.length x.parts.c, .slice x.chans.A x.chans.l.length x.chans.c, .slice x.modes.A x.modes.l.length x.modes.c, .slice x.pw.levels.A x.pw.levels.l.length x.pw.levels.c, .slice x.pw.naps.A x.pw.naps.l.length x.pw.naps.c, .int .i64 x.pw.sw, .int .i64 x.pw.idle, .int .i64 x.pw.change, .int .i64 x.pw.quant, .int .i64 x.pw.slow, .int .i64 x.pw.ppm, .slice x.shed.down.A x.shed.down.l.length x.shed.down.c, .slice x.shed.up.A x.shed.up.l.length x.shed.up.c]).alloc (.cells #[.slice L.A L.l.length L.c] 34)
  have kl := Blk.new (w.alloc (.cells #[.slice x.parts.A x.parts.l.length x.parts.c, .slice x.chans.A x.chans.l.length x.chans.c, .slice x.modes.A x.modes.l.length x.modes.c, .slice x.pw.levels.A x.pw.levels.l.length x.pw.levels.c, .slice x.pw.naps.A x.pw.naps.l.length x.pw.naps.c, .int .i64 x.pw.sw, .int .i64 x.pw.idle, .int .i64 x.pw.change, .int .i64 x.pw.quant, .int .i64 x.pw.slow, .int .i64 x.pw.ppm, .slice x.shed.down.A x.shed.down.l.length x.shed.down.c, .slice x.shed.up.A x.shed.up.l.length x.shed.up.c] 33)) 34 #[.slice L.A L.l.length L.c]
  rw [World.size_alloc] at kl
  exact ⟨_, _, rfl, slots1_seq hx hL (hwa.trans (hb.mono hwa.size)) h100 kl kc (fun b h => .inl h) (.inr (.inl rfl)) (.inr (.inr rfl)) (fun b h => by
    have h1 := hwa.size
    have h2 := kl.lt
    have h3 := kc.lt
    rcases h with h | rfl | rfl
    · simp; omega
    · exact h2
    · exact h3), hb, by omega, Nat.le_refl _, kl.lt, kc.lt⟩
theorem bdG_info : (Try.prog.info? 60).map (fun i => (i.zero, i.size, i.bytes)) = some (some (.agg #[.int .i64 0, .int .i64 0, .int .i64 0]), 3, 24) := by kernel_rfl
theorem allS_len (x : Cf) {c : Nat} (h : ∀ m ∈ x.modes.l, m.wins.l.length ≤ c) : ∀ ps : List Pg, (∀ p ∈ ps, 0 ≤ p.mode ∧ p.mode < x.modes.l.length) → (allS x ps).length ≤ ps.length * c
  | [], _ => by simp [allS]
  | p :: ps, hp => by
    obtain ⟨h0, h1⟩ := hp p (by simp)
    have h2 := h _ (atD_mem (d := Md0) (show p.mode.toNat < x.modes.l.length by omega))
    have ih := allS_len x h ps (fun q hq => hp q (by simp [hq]))
    have e : allS x (p :: ps) = pgS x p ++ allS x ps := by simp [allS, pgS]
    rw [e, List.length_append, List.length_cons, Nat.add_mul, show (pgS x p).length = (atD Md0 x.modes.l p.mode.toNat).wins.l.length by simp [pgS, slotsS]]
    omega
theorem bdS_take (ss : List St) {k : Nat} (hk : k < ss.length) : bdS (ss.take (k + 1)) = bdS (ss.take k) ++ [⟨(atD St0 ss k).fr, (atD St0 ss k).fr, (atD St0 ss k).part⟩, ⟨(atD St0 ss k).to, (atD St0 ss k).to, -1⟩] := by
  rw [take_snocG St0 _ _ hk]
  simp [bdS]
theorem bdS_len (ss : List St) : (bdS ss).length = 2 * ss.length := by
  induction ss with
  | nil => rfl
  | cons s ss ih =>
    show (([⟨s.fr, s.fr, s.part⟩, ⟨s.to, s.to, -1⟩] : List Bd) ++ bdS ss).length = _
    rw [List.length_append, ih, List.length_cons]
    simp
    omega
set_option maxRecDepth 100000 in
set_option maxHeartbeats 3200000 in
theorem Bounds_any {x : Cf} {L : Hd Fm} {w : World} (hx : x.ok w) (hL : rdFms.ok w L) (h100 : L.l.length ≤ 100) (hm100 : ∀ m ∈ x.modes.l, m.wins.l.length ≤ 100) :
    Calls Try.prog 16 #[x.v, L.v] w fun e w' => ∃ v, e = .returned v ∧ w'.ownsRow w.heap.size 60 3 v (bdS (allS x (pagesS x Pg0 L.l))).length ((bdS (allS x (pagesS x Pg0 L.l))).flatMap Bd.f) ∧ Below w.heap.size w w' := by
  obtain ⟨i0, hi0, hz0, hz1, hz2⟩ := info_parts bdG_info
  have hu : Try.prog.underlying 57 = some (.slice 60) := by kernel_rfl
  have hN : (allS x (pagesS x Pg0 L.l)).length ≤ 10000 := by
    have h1 := pages_len x Pg0 L.l
    have h2 := allS_len x hm100 (pagesS x Pg0 L.l) (fun p hp => pagesS_mode x Pg0 L.l p hp)
    omega
  simp only [Cf.v, Hd.v]
  refine (callsIn_wide (n := 1)).1 (callsIn_of_wp_marks Try.func16 rfl trivial ?_ rfl)
  simp only [Try.ntmps16, List.size_toArray, List.length_cons, List.length_nil, Nat.reduceAdd, Nat.reduceSub, Array.replicate_succ, Array.replicate_zero, List.push_toArray, List.append_toArray, List.nil_append, List.cons_append]
  have hb := ((Below.refl w.heap.size w).alloc (Nat.le_refl _) (.cells #[.slice x.parts.A x.parts.l.length x.parts.c, .slice x.chans.A x.chans.l.length x.chans.c, .slice x.modes.A x.modes.l.length x.modes.c, .slice x.pw.levels.A x.pw.levels.l.length x.pw.levels.c, .slice x.pw.naps.A x.pw.naps.l.length x.pw.naps.c, .int .i64 x.pw.sw, .int .i64 x.pw.idle, .int .i64 x.pw.change, .int .i64 x.pw.quant, .int .i64 x.pw.slow, .int .i64 x.pw.ppm, .slice x.shed.down.A x.shed.down.l.length x.shed.down.c, .slice x.shed.up.A x.shed.up.l.length x.shed.up.c] 33)).alloc (by simp) (.cells #[.slice none 0 0] 57)
  have ko := Blk.new (w.alloc (.cells #[.slice x.parts.A x.parts.l.length x.parts.c, .slice x.chans.A x.chans.l.length x.chans.c, .slice x.modes.A x.modes.l.length x.modes.c, .slice x.pw.levels.A x.pw.levels.l.length x.pw.levels.c, .slice x.pw.naps.A x.pw.naps.l.length x.pw.naps.c, .int .i64 x.pw.sw, .int .i64 x.pw.idle, .int .i64 x.pw.change, .int .i64 x.pw.quant, .int .i64 x.pw.slow, .int .i64 x.pw.ppm, .slice x.shed.down.A x.shed.down.l.length x.shed.down.c, .slice x.shed.up.A x.shed.up.l.length x.shed.up.c] 33)) 57 #[.slice none 0 0]
  gi_wp2
  generalize (w.alloc (.cells #[.slice x.parts.A x.parts.l.length x.parts.c, .slice x.chans.A x.chans.l.length x.chans.c, .slice x.modes.A x.modes.l.length x.modes.c, .slice x.pw.levels.A x.pw.levels.l.length x.pw.levels.c, .slice x.pw.naps.A x.pw.naps.l.length x.pw.naps.c, .int .i64 x.pw.sw, .int .i64 x.pw.idle, .int .i64 x.pw.change, .int .i64 x.pw.quant, .int .i64 x.pw.slow, .int .i64 x.pw.ppm, .slice x.shed.down.A x.shed.down.l.length x.shed.down.c, .slice x.shed.up.A x.shed.up.l.length x.shed.up.c] 33)).alloc (.cells #[.slice none 0 0] 57) = w1 at hb ko ⊢
  rw [World.size_alloc] at ko
  have hl1 := ko.lt
  refine ⟨trivial, callsIn_wide.2 ((slotsIt_any (w := w1) hx hL hb (fun m hm => Nat.le_trans (hm100 m hm) (by decide))).mono ?_)⟩
  rintro e w2 ⟨bl, bc, rfl, hseq, hb2, hbl, hbc, hbl2, hbc2⟩
  have ko2 := ko.keep hb2
  have hB2 := hb.trans (hb2.mono hb.size)
  have hs2 := hb2.size
  have hs9 := hB2.size
  clear hb ko
  clear hb2
  generalize hall : allS x (pagesS x Pg0 L.l) = all at hN hseq
  have HALL := Lib.hid hall
  clear hall
  gi_wp2
  refine wp_range (gf := 30) rfl (enters_of Try.func30 (by kernel_rfl) rfl) hseq (fun b h => by rcases h with h | h | h <;> omega) (Fr.refl _ _) (fun _ => rfl)
    (fun k T W => ∃ v, Blk W (w.heap.size + 1) 57 #[v] ∧ W.ownsRow (w.heap.size + 2) 60 3 v (2 * k) ((bdS (all.take k)).flatMap Bd.f) ∧ T (w.heap.size + 1) ∧ ∀ b, v.ownBlock = some b → T b)
    (fun _ _ _ _ => False) ?_ (fun _ _ _ _ _ h _ => h) (fun b => b = w.heap.size + 1) (fun b h h' => by rcases h' with h' | h' | h' <;> omega) (fun b h => by have := ko2.lt; omega)
    ⟨.slice none 0 0, ko2, World.ownsRow_nil _ _ _ _, rfl, fun b h => by cases h⟩
    (fun k a' T W => ∃ g v, a' = { tmps := #[.agg #[.slice x.parts.A x.parts.l.length x.parts.c, .slice x.chans.A x.chans.l.length x.chans.c, .slice x.modes.A x.modes.l.length x.modes.c, .slice x.pw.levels.A x.pw.levels.l.length x.pw.levels.c, .slice x.pw.naps.A x.pw.naps.l.length x.pw.naps.c, .int .i64 x.pw.sw, .int .i64 x.pw.idle, .int .i64 x.pw.change, .int .i64 x.pw.quant, .int .i64 x.pw.slow, .int .i64 x.pw.ppm, .slice x.shed.down.A x.shed.down.l.length x.shed.down.c, .slice x.shed.up.A x.shed.up.l.length x.shed.up.c], .slice L.A L.l.length L.c, .pointer (some ⟨w.heap.size, 0, none⟩), undef, .slice none 0 0, .pointer (some ⟨w.heap.size + 1, 0, none⟩), .pointer (some ⟨g, 0, none⟩), .agg #[.slice x.parts.A x.parts.l.length x.parts.c, .slice x.chans.A x.chans.l.length x.chans.c, .slice x.modes.A x.modes.l.length x.modes.c, .slice x.pw.levels.A x.pw.levels.l.length x.pw.levels.c, .slice x.pw.naps.A x.pw.naps.l.length x.pw.naps.c, .int .i64 x.pw.sw, .int .i64 x.pw.idle, .int .i64 x.pw.change, .int .i64 x.pw.quant, .int .i64 x.pw.slow, .int .i64 x.pw.ppm, .slice x.shed.down.A x.shed.down.l.length x.shed.down.c, .slice x.shed.up.A x.shed.up.l.length x.shed.up.c], .slice L.A L.l.length L.c, .func (.func 30) #[] #[.pointer (some ⟨bc, 0, none⟩), .pointer (some ⟨bl, 0, none⟩)], .agg #[.int .i64 (atD St0 all k).part, .int .i64 (atD St0 all k).fr, .int .i64 (atD St0 all k).to], undef, undef, undef, undef, undef, undef, undef, undef, undef, undef, undef, undef, undef, undef, undef, undef], defers := [] } ∧ T g ∧ Blk W g 51 #[.int .i64 (atD St0 all k).part, .int .i64 (atD St0 all k).fr, .int .i64 (atD St0 all k).to] ∧ g ≠ w.heap.size + 1 ∧ v.ownBlock ≠ some g ∧ Blk W (w.heap.size + 1) 57 #[v] ∧ W.ownsRow (w.heap.size + 2) 60 3 v (2 * k) ((bdS (all.take k)).flatMap Bd.f) ∧ T (w.heap.size + 1) ∧ ∀ b, v.ownBlock = some b → T b)
    ?_ ?_ ?_ ?_ ?_
  · rintro k T W W' ⟨v, h1, h2, h3, h4⟩ hf
    exact ⟨v, h1.fr hf (fun h => h.1 h3), own_fr h2 hf (fun b _ hb h => h.1 (h4 b hb)), h3, h4⟩
  · rintro a' k T W W' ⟨g, v, rfl, h0, h5, h6, h7, h1, h2, h3, h4⟩ hf
    exact ⟨g, v, rfl, h0, h5.fr hf (fun h => h.1 h0), h6, h7, h1.fr hf (fun h => h.1 h3), own_fr h2 hf (fun b _ hb h => h.1 (h4 b hb)), h3, h4⟩
  · rintro l k T W K hk ⟨v, h1, h2, h3, h4⟩ hT hK
    simp only [encS, St.v]
    gi_wp2
    have hz9 : (W.alloc (.cells #[.int .i64 (atD St0 all k).part, .int .i64 (atD St0 all k).fr, .int .i64 (atD St0 all k).to] 51)).heap.size = W.heap.size + 1 := by simp
    have hlo := h1.lt
    refine hK _ (fun b => T b ∨ b = W.heap.size) _ ((Fr.refl T W).alloc _) ?_ ⟨W.heap.size, v, rfl, .inr rfl, Blk.new _ _ _, by omega, (fun h => by have := (h2.lt _ h).2; omega), h1.alloc _, h2.alloc _, .inl h3, fun b hb => .inl (h4 b hb)⟩
    rintro b (h | h)
    · exact ⟨.inl h, by have := hT b h; omega⟩
    · exact ⟨.inr (by omega), by omega⟩
  · rintro l k a' T W hk ⟨g, v, rfl, h0, h5, h6, h7, h1, h2, h3, h4⟩ hT
    have hbt := bdS_take all hk
    generalize atD St0 all k = s at h5 hbt ⊢
    obtain ⟨sp, sf, st⟩ := s
    simp only at h5 hbt ⊢
    have HT := Lib.hid hbt
    clear hbt
    have hv0 : W.cell? ⟨w.heap.size + 1, 0, none⟩ = some v := h1.cell 0
    have hg0 : W.cell? ⟨g, 0, none⟩ = some (.int .i64 sp) := h5.cell 0
    have hg1 : W.cell? ⟨g, 1, none⟩ = some (.int .i64 sf) := h5.cell 1
    have hg2 : W.cell? ⟨g, 2, none⟩ = some (.int .i64 st) := h5.cell 2
    have hlo := h1.lt
    gi_wp2_with (gi_at_builtin; refine wpListIn_app W (by rfl) _ _ 57 (by rfl) (w.heap.size + 2) 60 i0 _ 3 24 2 hu hi0 hz0 hz1 hz2 rfl (by decide) (by decide) _ (2 * k) _ (by rfl) h2 #[.int .i64 sf, .int .i64 sf, .int .i64 sp, .int .i64 st, .int .i64 st, .int .i64 (-1)] rfl (by simp [Value.oneCell']) (by rfl) (by omega) (by omega) ?_; intro v' w4 hown4 hf4 hat4; obtain ⟨A', c', rfl, -, -⟩ := Sl.of_own hown4; have hb4 := h1.fr hf4 (fun e => own_ne h2 (show w.heap.size + 1 < w.heap.size + 2 by omega) e.symm); have hc4 : w4.cell? ⟨w.heap.size + 1, 0, none⟩ = some v := hb4.cell 0; have hz4 : w4.frozen? ⟨w.heap.size + 1, 0, none⟩ = false := hb4.frozen 0)
    have hs4 := hf4.size
    refine ⟨fun b => T b ∨ (W.heap.size ≤ b ∧ b < w4.heap.size), (hf4.mono (fun b _ h => h4 b h)).setCell (fun _ => h3) _, ?_, ⟨_, by simpa using hb4.set_ 0 (.slice A' (2 * k + 2) c'), ?_, .inl h3, fun b hb => ?_⟩⟩
    · rintro b (h | h)
      · exact ⟨.inl h, by have := hT b h; simp; omega⟩
      · exact ⟨.inr h.1, by simpa using h.2⟩
    · rw [HT.out, List.flatMap_append]
      exact own_fr hown4 ((Fr.refl (· = w.heap.size + 1) w4).setCell (p := ⟨w.heap.size + 1, 0, none⟩) (fun _ => rfl) _) (fun b hb _ h => by omega)
    · have hlt := (hown4.lt _ hb).2
      rcases hat4 with h | ⟨g', h, hg'⟩
      · exact .inl (h4 b (h ▸ hb))
      · rw [h] at hb
        cases hb
        exact .inr ⟨hg', hlt⟩
  · rintro D T' W hD hnD hF hG ⟨v, h1, h2, h3, h4⟩ hK
    have hv0 : W.cell? ⟨w.heap.size + 1, 0, none⟩ = some v := h1.cell 0
    gi_wp2
    refine ⟨by simp, .inl ⟨_, _, rfl, run_takeDeferred hK, ?_⟩⟩
    refine ⟨_, results_tmp rfl _ _ _, v, rfl, ?_, ?_⟩
    · rw [List.take_length] at h2
      rw [HALL.out, bdS_len]
      exact own_mono (ownsRow_putObj h2 _ hK rfl) (by omega)
    · exact hB2.trans ((hF.putObj (l := D) (fun h => by omega) _).below (fun b hb h => by omega) (by omega))
  · exact fun _ _ _ _ _ _ _ _ _ _ h _ => h.elim
def cntS (ss : List St) (part : Int) : Nat := (ss.filter fun s => s.part == part).length
theorem cntS_take (ss : List St) (part : Int) {k : Nat} (hk : k < ss.length) : cntS (ss.take (k + 1)) part = cntS (ss.take k) part + if (atD St0 ss k).part = part then 1 else 0 := by
  unfold cntS
  rw [take_snocG St0 _ _ hk, List.filter_append, List.length_append]
  by_cases h : (atD St0 ss k).part = part <;> simp [h]
theorem cntS_le (ss : List St) (part : Int) : cntS ss part ≤ ss.length := List.length_filter_le _ _
set_option maxRecDepth 100000 in
set_option maxHeartbeats 3200000 in
theorem Windows_any {x : Cf} {L : Hd Fm} {w : World} (hx : x.ok w) (hL : rdFms.ok w L) (h100 : L.l.length ≤ 100) (hm100 : ∀ m ∈ x.modes.l, m.wins.l.length ≤ 100) (part : Int) :
    Calls Try.prog 17 #[x.v, L.v, .int .i64 part] w fun e w' => e = .returned (.int .i64 (cntS (allS x (pagesS x Pg0 L.l)) part : Nat)) ∧ Below w.heap.size w w' := by
  have hN : (allS x (pagesS x Pg0 L.l)).length ≤ 10000 := by
    have h1 := pages_len x Pg0 L.l
    have h2 := allS_len x hm100 (pagesS x Pg0 L.l) (fun p hp => pagesS_mode x Pg0 L.l p hp)
    omega
  simp only [Cf.v, Hd.v]
  refine (callsIn_wide (n := 1)).1 (callsIn_of_wp_marks Try.func17 rfl trivial ?_ rfl)
  simp only [Try.ntmps17, List.size_toArray, List.length_cons, List.length_nil, Nat.reduceAdd, Nat.reduceSub, Array.replicate_succ, Array.replicate_zero, List.push_toArray, List.append_toArray, List.nil_append, List.cons_append]
  have hb := (((Below.refl w.heap.size w).alloc (Nat.le_refl _) (.cells #[.slice x.parts.A x.parts.l.length x.parts.c, .slice x.chans.A x.chans.l.length x.chans.c, .slice x.modes.A x.modes.l.length x.modes.c, .slice x.pw.levels.A x.pw.levels.l.length x.pw.levels.c, .slice x.pw.naps.A x.pw.naps.l.length x.pw.naps.c, .int .i64 x.pw.sw, .int .i64 x.pw.idle, .int .i64 x.pw.change, .int .i64 x.pw.quant, .int .i64 x.pw.slow, .int .i64 x.pw.ppm, .slice x.shed.down.A x.shed.down.l.length x.shed.down.c, .slice x.shed.up.A x.shed.up.l.length x.shed.up.c] 33)).alloc (by simp) (.cells #[.int .i64 part] 3)).alloc (by simp; omega) (.cells #[.int .i64 0] 3)
  have kp := (Blk.new (w.alloc (.cells #[.slice x.parts.A x.parts.l.length x.parts.c, .slice x.chans.A x.chans.l.length x.chans.c, .slice x.modes.A x.modes.l.length x.modes.c, .slice x.pw.levels.A x.pw.levels.l.length x.pw.levels.c, .slice x.pw.naps.A x.pw.naps.l.length x.pw.naps.c, .int .i64 x.pw.sw, .int .i64 x.pw.idle, .int .i64 x.pw.change, .int .i64 x.pw.quant, .int .i64 x.pw.slow, .int .i64 x.pw.ppm, .slice x.shed.down.A x.shed.down.l.length x.shed.down.c, .slice x.shed.up.A x.shed.up.l.length x.shed.up.c] 33)) 3 #[.int .i64 part]).alloc (.cells #[.int .i64 0] 3)
  have ko := Blk.new ((w.alloc (.cells #[.slice x.parts.A x.parts.l.length x.parts.c, .slice x.chans.A x.chans.l.length x.chans.c, .slice x.modes.A x.modes.l.length x.modes.c, .slice x.pw.levels.A x.pw.levels.l.length x.pw.levels.c, .slice x.pw.naps.A x.pw.naps.l.length x.pw.naps.c, .int .i64 x.pw.sw, .int .i64 x.pw.idle, .int .i64 x.pw.change, .int .i64 x.pw.quant, .int .i64 x.pw.slow, .int .i64 x.pw.ppm, .slice x.shed.down.A x.shed.down.l.length x.shed.down.c, .slice x.shed.up.A x.shed.up.l.length x.shed.up.c] 33)).alloc (.cells #[.int .i64 part] 3)) 3 #[.int .i64 0]
  gi_wp2
  generalize ((w.alloc (.cells #[.slice x.parts.A x.parts.l.length x.parts.c, .slice x.chans.A x.chans.l.length x.chans.c, .slice x.modes.A x.modes.l.length x.modes.c, .slice x.pw.levels.A x.pw.levels.l.length x.pw.levels.c, .slice x.pw.naps.A x.pw.naps.l.length x.pw.naps.c, .int .i64 x.pw.sw, .int .i64 x.pw.idle, .int .i64 x.pw.change, .int .i64 x.pw.quant, .int .i64 x.pw.slow, .int .i64 x.pw.ppm, .slice x.shed.down.A x.shed.down.l.length x.shed.down.c, .slice x.shed.up.A x.shed.up.l.length x.shed.up.c] 33)).alloc (.cells #[.int .i64 part] 3)).alloc (.cells #[.int .i64 0] 3) = w1 at hb kp ko ⊢
  simp only [World.size_alloc] at ko kp
  have hl1 := ko.lt
  refine ⟨trivial, callsIn_wide.2 ((slotsIt_any (w := w1) hx hL hb (fun m hm => Nat.le_trans (hm100 m hm) (by decide))).mono ?_)⟩
  rintro e w2 ⟨bl, bc, rfl, hseq, hb2, hbl, hbc, hbl2, hbc2⟩
  have ko2 := ko.keep hb2
  have kp2 := kp.keep hb2
  have hB2 := hb.trans (hb2.mono hb.size)
  have hs2 := hb2.size
  have hs9 := hB2.size
  clear hb ko kp
  clear hb2
  generalize hall : allS x (pagesS x Pg0 L.l) = all at hN hseq
  have HALL := Lib.hid hall
  clear hall
  gi_wp2
  refine wp_range (gf := 30) rfl (enters_of Try.func30 (by kernel_rfl) rfl) hseq (fun b h => by rcases h with h | h | h <;> omega) (Fr.refl _ _) (fun _ => rfl)
    (fun k T W => Blk W (w.heap.size + 1 + 1) 3 #[.int .i64 (cntS (all.take k) part : Nat)] ∧ Blk W (w.heap.size + 1) 3 #[.int .i64 part] ∧ T (w.heap.size + 1) ∧ T (w.heap.size + 1 + 1))
    (fun _ _ _ _ => False) ?_ (fun _ _ _ _ _ h _ => h) (fun b => b = w.heap.size + 1 ∨ b = w.heap.size + 1 + 1) (fun b h h' => by rcases h' with h' | h' | h' <;> omega) (fun b h => by have := ko2.lt; omega)
    ⟨ko2, kp2, .inl rfl, .inr rfl⟩
    (fun k a' T W => ∃ g, a' = { tmps := #[.agg #[.slice x.parts.A x.parts.l.length x.parts.c, .slice x.chans.A x.chans.l.length x.chans.c, .slice x.modes.A x.modes.l.length x.modes.c, .slice x.pw.levels.A x.pw.levels.l.length x.pw.levels.c, .slice x.pw.naps.A x.pw.naps.l.length x.pw.naps.c, .int .i64 x.pw.sw, .int .i64 x.pw.idle, .int .i64 x.pw.change, .int .i64 x.pw.quant, .int .i64 x.pw.slow, .int .i64 x.pw.ppm, .slice x.shed.down.A x.shed.down.l.length x.shed.down.c, .slice x.shed.up.A x.shed.up.l.length x.shed.up.c], .slice L.A L.l.length L.c, .int .i64 part, .pointer (some ⟨w.heap.size, 0, none⟩), undef, .pointer (some ⟨w.heap.size + 1, 0, none⟩), .int .i64 0, .pointer (some ⟨w.heap.size + 1 + 1, 0, none⟩), .pointer (some ⟨g, 0, none⟩), .agg #[.slice x.parts.A x.parts.l.length x.parts.c, .slice x.chans.A x.chans.l.length x.chans.c, .slice x.modes.A x.modes.l.length x.modes.c, .slice x.pw.levels.A x.pw.levels.l.length x.pw.levels.c, .slice x.pw.naps.A x.pw.naps.l.length x.pw.naps.c, .int .i64 x.pw.sw, .int .i64 x.pw.idle, .int .i64 x.pw.change, .int .i64 x.pw.quant, .int .i64 x.pw.slow, .int .i64 x.pw.ppm, .slice x.shed.down.A x.shed.down.l.length x.shed.down.c, .slice x.shed.up.A x.shed.up.l.length x.shed.up.c], .slice L.A L.l.length L.c, .func (.func 30) #[] #[.pointer (some ⟨bc, 0, none⟩), .pointer (some ⟨bl, 0, none⟩)], .agg #[.int .i64 (atD St0 all k).part, .int .i64 (atD St0 all k).fr, .int .i64 (atD St0 all k).to], undef, undef, undef, undef, undef, undef, undef], defers := [] } ∧ T g ∧ Blk W g 51 #[.int .i64 (atD St0 all k).part, .int .i64 (atD St0 all k).fr, .int .i64 (atD St0 all k).to] ∧ Blk W (w.heap.size + 1 + 1) 3 #[.int .i64 (cntS (all.take k) part : Nat)] ∧ Blk W (w.heap.size + 1) 3 #[.int .i64 part] ∧ T (w.heap.size + 1) ∧ T (w.heap.size + 1 + 1))
    ?_ ?_ ?_ ?_ ?_
  · rintro k T W W' ⟨h1, h2, h3, h4⟩ hf
    exact ⟨h1.fr hf (fun h => h.1 h4), h2.fr hf (fun h => h.1 h3), h3, h4⟩
  · rintro a' k T W W' ⟨g, rfl, h0, h5, h1, h2, h3, h4⟩ hf
    exact ⟨g, rfl, h0, h5.fr hf (fun h => h.1 h0), h1.fr hf (fun h => h.1 h4), h2.fr hf (fun h => h.1 h3), h3, h4⟩
  · rintro l k T W K hk ⟨h1, h2, h3, h4⟩ hT hK
    simp only [encS, St.v]
    gi_wp2
    have hz9 : (W.alloc (.cells #[.int .i64 (atD St0 all k).part, .int .i64 (atD St0 all k).fr, .int .i64 (atD St0 all k).to] 51)).heap.size = W.heap.size + 1 := by simp
    refine hK _ (fun b => T b ∨ b = W.heap.size) _ ((Fr.refl T W).alloc _) ?_ ⟨W.heap.size, rfl, .inr rfl, Blk.new _ _ _, h1.alloc _, h2.alloc _, .inl h3, .inl h4⟩
    rintro b (h | h)
    · exact ⟨.inl h, by have := hT b h; omega⟩
    · exact ⟨.inr (by omega), by omega⟩
  · rintro l k a' T W hk ⟨g, rfl, h0, h5, h1, h2, h3, h4⟩ hT
    have hct := cntS_take all part hk
    have hcl := cntS_le (all.take k) part
    have hcl2 : (all.take k).length ≤ k := by rw [List.length_take]; omega
    generalize atD St0 all k = s at h5 hct ⊢
    generalize cntS (all.take k) part = cnt at h1 hct hcl
    obtain ⟨sp, sf, st⟩ := s
    simp only at h5 hct ⊢
    have HT := Lib.hid hct
    clear hct
    have hv0 : W.cell? ⟨w.heap.size + 1 + 1, 0, none⟩ = some (.int .i64 (cnt : Int)) := h1.cell 0
    have hvf : W.frozen? ⟨w.heap.size + 1 + 1, 0, none⟩ = false := h1.frozen 0
    have hp0 : W.cell? ⟨w.heap.size + 1, 0, none⟩ = some (.int .i64 part) := h2.cell 0
    have hg0 : W.cell? ⟨g, 0, none⟩ = some (.int .i64 sp) := h5.cell 0
    have hlo := h1.lt
    by_cases he : sp = part
    · have he' : (sp == part) = true := by simpa using he
      gi_wp2
      refine ⟨T, (Fr.refl T W).setCell (p := ⟨w.heap.size + 1 + 1, 0, none⟩) (fun _ => h4) _, fun b hb => ⟨.inl hb, by simpa using hT b hb⟩, ?_, h2.far (p := ⟨w.heap.size + 1 + 1, 0, none⟩) (by simp) _, h3, h4⟩
      rw [HT.out, if_pos he]
      simpa using h1.set_ 0 (.int .i64 ((cnt : Int) + 1))
    · have he' : (sp == part) = false := by simpa using he
      gi_wp2
      refine ⟨T, Fr.refl T W, fun b hb => ⟨.inl hb, hT b hb⟩, ?_, h2, h3, h4⟩
      rw [HT.out, if_neg he]
      exact h1
  · rintro D T' W hD hnD hF hG ⟨h1, h2, h3, h4⟩ hK
    have hv0 : W.cell? ⟨w.heap.size + 1 + 1, 0, none⟩ = some (.int .i64 (cntS (all.take all.length) part : Nat)) := h1.cell 0
    rw [List.take_length] at hv0
    gi_wp2
    refine ⟨by simp, .inl ⟨_, _, rfl, run_takeDeferred hK, ?_⟩⟩
    refine ⟨_, results_tmp rfl _ _ _, by rw [HALL.out]; rfl, ?_⟩
    exact hB2.trans ((hF.putObj (l := D) (fun h => by omega) _).below (fun b hb h => by omega) (by omega))
  · exact fun _ _ _ _ _ _ _ _ _ _ h _ => h.elim
end Go.Proofs.Ytiglabknaldinaa
