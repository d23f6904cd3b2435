/- calendar's iterators: over the pages, over the windows. -/
import Derived.Test.YtiglabknaldinaaCalNext
import Derived.WalkMore
namespace Go.Proofs.Ytiglabknaldinaa
open Go.RowKit Go.Shelf
attribute [local go_sem] Oper.semAt_some
theorem pages_snoc {x : Cf} {done : List Pg} {p q : Pg} {fs : List Fm} {f : Fm} {all : List Pg} (h : all = done ++ pagesS x p (f :: fs)) (hq : stepS x p f = some q) : all = (done ++ [q]) ++ pagesS x q fs := by
  rw [h, pagesS, hq]
  simp
theorem pages_stop {x : Cf} {done : List Pg} {p : Pg} {fs : List Fm} {f : Fm} {all : List Pg} (h : all = done ++ pagesS x p (f :: fs)) (hq : stepS x p f = none) : all = done := by
  rw [h, pagesS, hq]
  simp
theorem drop_atD {α : Type} (d : α) (l : List α) {k : Nat} (h : k < l.length) : l.drop k = atD d l k :: l.drop (k + 1) := by
  rw [List.drop_eq_getElem_cons h, atD_lt h]
def encP (all : List Pg) (k : Nat) : Array Value := #[(atD Pg0 all k).v]
theorem encP_at {done rest : List Pg} {q : Pg} : encP (done ++ q :: rest) done.length = #[.agg #[.int .i64 q.at_, .int .i64 q.end_, .int .i64 q.mode, .int .i64 q.level]] := by
  unfold encP
  rw [show atD Pg0 (done ++ q :: rest) done.length = q by simp [atD]]
  rfl
set_option maxRecDepth 100000 in
set_option maxHeartbeats 3200000 in
theorem pages1_seq {x : Cf} {L : Hd Fm} {wa w : World} (hx : x.ok wa) (hL : rdFms.ok wa L) (hwa : Below wa.heap.size wa w) {K : Nat → Prop} {bl bc : Nat} (kl : Blk w bl 34 #[.slice L.A L.l.length L.c]) (kc : Blk w bc 33 #[.slice x.parts.A x.parts.l.length x.parts.c, .slice x.chans.A x.chans.l.length x.chans.c, .slice x.modes.A x.modes.l.length x.modes.c, .slice x.pw.levels.A x.pw.levels.l.length x.pw.levels.c, .slice x.pw.naps.A x.pw.naps.l.length x.pw.naps.c, .int .i64 x.pw.sw, .int .i64 x.pw.idle, .int .i64 x.pw.change, .int .i64 x.pw.quant, .int .i64 x.pw.slow, .int .i64 x.pw.ppm, .slice x.shed.down.A x.shed.down.l.length x.shed.down.c, .slice x.shed.up.A x.shed.up.l.length x.shed.up.c]) (hK1 : ∀ b, b < wa.heap.size → K b) (hKl : K bl) (hKc : K bc) (hK2 : ∀ b, K b → b < w.heap.size) :
    SeqT Try.prog 22 #[.pointer (some ⟨bl, 0, none⟩), .pointer (some ⟨bc, 0, none⟩)] (encP (pagesS x Pg0 L.l)) (pagesS x Pg0 L.l).length K w := by
  intro l J Jx T W hW hJ hJx hT0 hTb hY h0
  obtain ⟨LA, Lc, Ll⟩ := L
  simp only at kl hY ⊢
  have hn := hL.1.len
  have hxn := hx.2.2.2.2.1.len
  have hmn := hx.2.2.1.1.len
  have kl0 := (kl.fr hW (fun h => h hKl)).alloc (.cells #[.int .i64 0, .int .i64 0, .int .i64 0, .int .i64 0] 42)
  have hb0 := (Below.refl W.heap.size W).alloc (Nat.le_refl _) (.cells #[.int .i64 0, .int .i64 0, .int .i64 0, .int .i64 0] 42)
  have kp0 := Blk.new W 42 #[.int .i64 0, .int .i64 0, .int .i64 0, .int .i64 0]
  have hzz : (W.alloc (.cells #[.int .i64 0, .int .i64 0, .int .i64 0, .int .i64 0] 42)).heap.size ≤ W.heap.size + 1 := by simp
  have hT9 : ∀ b, T b → wa.heap.size ≤ b := fun b h => by
    rcases Nat.lt_or_ge b wa.heap.size with h1 | h1
    · exact absurd (hK1 b h1) (hT0 b h)
    · exact h1
  have hTc : ¬ T bc := fun h => hT0 _ h hKc
  have hKW : ¬ K W.heap.size := fun h => by have := hK2 _ h; have := hW.size; omega
  have hlc : bc < W.heap.size := Nat.lt_of_lt_of_le kc.lt hW.size
  have kcW := kc.fr hW (fun h => h hKc)
  have c0 : (W.alloc (.cells #[.int .i64 0, .int .i64 0, .int .i64 0, .int .i64 0] 42)).cell? ⟨bl, 0, none⟩ = some (.slice LA Ll.length Lc) := kl0.cell 0
  go_enter Try.func22, Try.ntmps22
  go_step3
  go_upto_region 1 with go_step3
  generalize W.alloc (.cells #[.int .i64 0, .int .i64 0, .int .i64 0, .int .i64 0] 42) = W0 at kl0 hb0 kp0 c0 hzz ⊢
  have hz0 := hb0.size
  have hz9 := hzz
  clear hzz
  go_wp2_with fail
  go_loopw [11] (fun i wr => ∃ (k : Nat) (p : Pg) (done : List Pg) (T' : Nat → Prop), k ≤ Ll.length ∧ i = .int .i64 (k : Int) ∧ done.length = k ∧ pagesS x Pg0 Ll = done ++ pagesS x p (Ll.drop k) ∧ PgOk x p ∧ Blk wr W.heap.size 42 #[.int .i64 p.at_, .int .i64 p.end_, .int .i64 p.mode, .int .i64 p.level] ∧ ¬ T' W.heap.size ∧
    Fr (fun b => T b ∨ b = W.heap.size) W0 wr ∧ Grw T T' W wr ∧ J k T' wr) (fun i _ => Ll.length - (intOf i).toNat)
  case atStart => exact ⟨0, Pg0, [], T, Nat.zero_le _, rfl, rfl, rfl, pg0_ok x, kp0, (fun h => by have := hTb _ h; omega), Fr.refl _ _, (fun b hb => ⟨.inl hb, by have := hTb b hb; omega⟩), hJ _ _ _ _ h0 (Fr.of_below hb0 _)⟩
  case round =>
    clear c0
    obtain ⟨k, p, done, T', hk, rfl, hdk, hall, hp, kp, hnT, hF, hG, hJk⟩ := hrel
    have hW' : Below wa.heap.size wa W := hwa.trans (hW.below (fun k hk h => h (hK1 k hk)) hwa.size)
    have hsW := hW'.size
    have hB0 := hW'.trans (hb0.mono hsW)
    have hbw : Below wa.heap.size wa wr := hB0.trans (hF.below (fun b hb h => by
      rcases h with h | h
      · have := hT9 b h; omega
      · omega) (by omega))
    have hFW : Fr T W wr := (Fr.of_below hb0 T).trans' hF (fun b hb h => h.resolve_right (by omega))
    have HA := Lib.hid hall
    have HD := Lib.hid hdk
    clear hall hdk
    by_cases hlt : k < Ll.length
    · obtain ⟨bb, o, rfl, hbb, hc⟩ := (rdFms.keep hL hbw).1.at_ Fm0 hlt
      have hfo := (rdFms.keep hL hbw).2 _ (atD_mem (d := Fm0) hlt)
      have HK := Lib.hid (drop_atD Fm0 Ll hlt)
      simp only at hc hfo
      have x0 : wr.cell? ⟨bb, o + k * 4, none⟩ = some (.int .i64 (atD Fm0 Ll k).reading) := hc 0 _ rfl
      have x1 : wr.cell? ⟨bb, o + k * 4 + 1, none⟩ = some (.int .i64 (atD Fm0 Ll k).mode) := hc 1 _ rfl
      have x2 : wr.cell? ⟨bb, o + k * 4 + 2, none⟩ = some (.int .i64 (atD Fm0 Ll k).drift) := hc 2 _ rfl
      have x3 : wr.cell? ⟨bb, o + k * 4 + 3, none⟩ = some (.int .i64 (atD Fm0 Ll k).choice) := hc 3 _ rfl
      clear hc
      generalize atD Fm0 Ll k = f at x0 x1 x2 x3 hfo HK
      have hb3 := (Below.refl wr.heap.size wr).alloc (Nat.le_refl _) (.cells #[.int .i64 f.reading, .int .i64 f.mode, .int .i64 f.drift, .int .i64 f.choice] 76)
      have kf := Blk.new wr 76 #[.int .i64 f.reading, .int .i64 f.mode, .int .i64 f.drift, .int .i64 f.choice]
      go_upto_region 4 with fail
      generalize wr.alloc (.cells #[.int .i64 f.reading, .int .i64 f.mode, .int .i64 f.drift, .int .i64 f.choice] 76) = w3 at hb3 kf ⊢
      have hB3 := hbw.trans (hb3.mono hbw.size)
      have kp3 := kp.keep hb3
      have kc3 := (kcW.fr hFW hTc).keep hb3
      have f0 : w3.cell? ⟨wr.heap.size, 0, none⟩ = some (.int .i64 f.reading) := kf.cell 0
      have f1 : w3.cell? ⟨wr.heap.size, 1, none⟩ = some (.int .i64 f.mode) := kf.cell 1
      have f2 : w3.cell? ⟨wr.heap.size, 2, none⟩ = some (.int .i64 f.drift) := kf.cell 2
      have f3 : w3.cell? ⟨wr.heap.size, 3, none⟩ = some (.int .i64 f.choice) := kf.cell 3
      have p0 : w3.cell? ⟨W.heap.size, 0, none⟩ = some (.int .i64 p.at_) := kp3.cell 0
      have p1 : w3.cell? ⟨W.heap.size, 1, none⟩ = some (.int .i64 p.end_) := kp3.cell 1
      have p2 : w3.cell? ⟨W.heap.size, 2, none⟩ = some (.int .i64 p.mode) := kp3.cell 2
      have p3 : w3.cell? ⟨W.heap.size, 3, none⟩ = some (.int .i64 p.level) := kp3.cell 3
      have c0 : w3.cell? ⟨bc, 0, none⟩ = some (.slice x.parts.A x.parts.l.length x.parts.c) := kc3.cell 0
      have c1 : w3.cell? ⟨bc, 1, none⟩ = some (.slice x.chans.A x.chans.l.length x.chans.c) := kc3.cell 1
      have c2 : w3.cell? ⟨bc, 2, none⟩ = some (.slice x.modes.A x.modes.l.length x.modes.c) := kc3.cell 2
      have c3 : w3.cell? ⟨bc, 3, none⟩ = some (.slice x.pw.levels.A x.pw.levels.l.length x.pw.levels.c) := kc3.cell 3
      have c4 : w3.cell? ⟨bc, 4, none⟩ = some (.slice x.pw.naps.A x.pw.naps.l.length x.pw.naps.c) := kc3.cell 4
      have c5 : w3.cell? ⟨bc, 5, none⟩ = some (.int .i64 x.pw.sw) := kc3.cell 5
      have c6 : w3.cell? ⟨bc, 6, none⟩ = some (.int .i64 x.pw.idle) := kc3.cell 6
      have c7 : w3.cell? ⟨bc, 7, none⟩ = some (.int .i64 x.pw.change) := kc3.cell 7
      have c8 : w3.cell? ⟨bc, 8, none⟩ = some (.int .i64 x.pw.quant) := kc3.cell 8
      have c9 : w3.cell? ⟨bc, 9, none⟩ = some (.int .i64 x.pw.slow) := kc3.cell 9
      have c10 : w3.cell? ⟨bc, 10, none⟩ = some (.int .i64 x.pw.ppm) := kc3.cell 10
      have c11 : w3.cell? ⟨bc, 11, none⟩ = some (.slice x.shed.down.A x.shed.down.l.length x.shed.down.c) := kc3.cell 11
      have c12 : w3.cell? ⟨bc, 12, none⟩ = some (.slice x.shed.up.A x.shed.up.l.length x.shed.up.c) := kc3.cell 12
      clear x0 x1 x2 x3
      go_wp2_with fail
      refine (next_page (w := w3) (rdCf.keep hx hB3) hp (rdFm.keep hfo hb3)).mono ?_
      rintro e w4 ⟨rfl, hb4⟩
      clear f0 f1 f2 f3 p0 p1 p2 p3 c0 c1 c2 c3 c4 c5 c6 c7 c8 c9 c10 c11 c12
      have hb34 := hb3.trans (hb4.mono hb3.size)
      have HA1 : Hid (pagesS x Pg0 Ll = done ++ pagesS x p (f :: Ll.drop (k + 1))) := by have := HA.out; rw [HK.out] at this; exact this
      cases hS : stepS x p f with
      | none =>
        have hN : nextP x p f = (Pg0, false) := by unfold nextP; rw [hS]
        rw [hN]
        have HS := Lib.hid hS
        clear hN hS
        simp only [Pg.v, Pg0]
        have hb5 := hb34.alloc hb34.size (.cells #[.int .i64 0, .int .i64 0, .int .i64 0, .int .i64 0] 42)
        go_upto_region 5 with fail
        generalize w4.alloc (.cells #[.int .i64 0, .int .i64 0, .int .i64 0, .int .i64 0] 42) = w5 at hb5 ⊢
        go_wp2_with fail
        rw [Exit.noGoto_normal]
        refine bodyPost_end (results_none rfl _ _ _) rfl ⟨⟨_, rfl⟩, T', hFW.trans (Fr.of_below hb5 T), fun b hb => ⟨(hG b hb).1, Nat.lt_of_lt_of_le (hG b hb).2 hb5.size⟩, .inl ?_⟩
        rw [pages_stop HA1.out HS.out, HD.out]
        exact hJ _ _ _ _ hJk (Fr.of_below hb5 _)
      | some q =>
        have hN : nextP x p f = (q, true) := by unfold nextP; rw [hS]
        rw [hN]
        have hpq := stepS_ok hp hxn hmn hS
        have HS := Lib.hid hS
        have HA2 := Lib.hid (pages_snoc HA1.out hS)
        clear hN hS
        simp only [Pg.v]
        have hb5 := hb34.alloc hb34.size (.cells #[.int .i64 q.at_, .int .i64 q.end_, .int .i64 q.mode, .int .i64 q.level] 42)
        have kq := Blk.new w4 42 #[.int .i64 q.at_, .int .i64 q.end_, .int .i64 q.mode, .int .i64 q.level]
        have hg7 : wr.heap.size ≤ w4.heap.size := hb34.size
        go_upto_region 5 with fail
        generalize w4.alloc (.cells #[.int .i64 q.at_, .int .i64 q.end_, .int .i64 q.mode, .int .i64 q.level] 42) = w5 at hb5 kq ⊢
        generalize w4.heap.size = g7 at kq hg7 ⊢
        have hlq := kq.lt
        have hkN : k < (pagesS x Pg0 Ll).length := by rw [HA2.out]; simp [HD.out]
        have hY1 := hY k T' w5 hkN (hJ _ _ _ _ hJk (Fr.of_below hb5 _)) (fun b hb => Nat.lt_of_lt_of_le (hG b hb).2 hb5.size)
        rw [show encP (pagesS x Pg0 Ll) k = #[.agg #[.int .i64 q.at_, .int .i64 q.end_, .int .i64 q.mode, .int .i64 q.level]] by rw [HA2.out, ← HD.out, List.append_assoc]; exact encP_at] at hY1
        obtain ⟨fn, tmps, assign, body, hy, hR⟩ := hY1
        have q0 : w5.cell? ⟨g7, 0, none⟩ = some (.int .i64 q.at_) := kq.cell 0
        have q1 : w5.cell? ⟨g7, 1, none⟩ = some (.int .i64 q.end_) := kq.cell 1
        have q2 : w5.cell? ⟨g7, 2, none⟩ = some (.int .i64 q.mode) := kq.cell 2
        have q3 : w5.cell? ⟨g7, 3, none⟩ = some (.int .i64 q.level) := kq.cell 3
        refine (wpIn_wide (n := 1)).1 ?_
        gi_wp2
        refine hR.mono ?_
        have hnT7 : ¬ T' g7 := fun h => by have := (hG g7 h).2; omega
        have hkp5 := kp.keep (hb5.mono (Nat.le_refl _))
        have hwrW : W.heap.size < wr.heap.size := kp.lt
        rintro e w6 ⟨T2, hF6, hG6, (⟨rfl, hJ6⟩ | ⟨rfl, hJx6⟩)⟩
        · have kq6 := kq.fr hF6 hnT7
          have kp6 := hkp5.fr hF6 hnT
          clear q0 q1 q2 q3 hy
          have q0 : w6.cell? ⟨g7, 0, none⟩ = some (.int .i64 q.at_) := kq6.cell 0
          have q1 : w6.cell? ⟨g7, 1, none⟩ = some (.int .i64 q.end_) := kq6.cell 1
          have q2 : w6.cell? ⟨g7, 2, none⟩ = some (.int .i64 q.mode) := kq6.cell 2
          have q3 : w6.cell? ⟨g7, 3, none⟩ = some (.int .i64 q.level) := kq6.cell 3
          have p0 : w6.cell? ⟨W.heap.size, 0, none⟩ = some (.int .i64 p.at_) := kp6.cell 0
          have p1 : w6.cell? ⟨W.heap.size, 1, none⟩ = some (.int .i64 p.end_) := kp6.cell 1
          have p2 : w6.cell? ⟨W.heap.size, 2, none⟩ = some (.int .i64 p.mode) := kp6.cell 2
          have p3 : w6.cell? ⟨W.heap.size, 3, none⟩ = some (.int .i64 p.level) := kp6.cell 3
          have pf : ∀ i, w6.frozen? ⟨W.heap.size, i, none⟩ = false := kp6.frozen
          have hlp := kp6.lt
          have hnT2 : ¬ T2 W.heap.size := fun h => by
            rcases (hG6 _ h).1 with h | h
            · exact hnT h
            · have := hb5.size; omega
          gi_wp2
          go_wp2_with fail
          have fs := Fr.row (S := fun b => ¬ T2 b ∧ ¬ K b) (g := W.heap.size) [.int .i64 q.at_, .int .i64 q.end_, .int .i64 q.mode, .int .i64 q.level] 0 (Fr.refl _ w6) (fun _ => ⟨hnT2, hKW⟩)
          have ks : Blk (setRow w6 W.heap.size 0 [.int .i64 q.at_, .int .i64 q.end_, .int .i64 q.mode, .int .i64 q.level]) W.heap.size 42 _ := Blk.row kp6 rfl
          have fs2 := Fr.row (S := fun b => T b ∨ b = W.heap.size) (g := W.heap.size) [.int .i64 q.at_, .int .i64 q.end_, .int .i64 q.mode, .int .i64 q.level] 0 ((hF.trans (Fr.of_below (hb5.mono (Nat.le_refl _)) _)).trans' hF6 (fun b hb h => by
            rcases (hG b h).1 with h | h
            · exact .inl h
            · exact .inr (by omega))) (fun _ => .inr rfl)
          refine ⟨⟨k + 1, q, done ++ [q], T2, by omega, by go_num, by rw [List.length_append, HD.out]; rfl, HA2.out, hpq, ks, hnT2, fs2, fun b hb => ?_, hJ _ _ _ _ hJ6 fs⟩, by simp [intOf]; omega⟩
          obtain ⟨h1, h2⟩ := hG6 b hb
          refine ⟨?_, by simpa using h2⟩
          rcases h1 with h1 | h1
          · exact (hG b h1).1
          · exact .inr (by have := hb5.size; omega)
        · gi_wp2
          go_wp2_with fail
          rw [Exit.noGoto_normal]
          refine bodyPost_end (results_none rfl _ _ _) rfl ⟨⟨_, rfl⟩, T2, (hFW.trans (Fr.of_below (hb5.mono (Nat.le_refl _)) T)).trans' hF6 (fun b hb h => ((hG b h).1).resolve_right (by omega)), fun b hb => ?_, .inr ⟨k + 1, by omega, hJx6⟩⟩
          obtain ⟨h1, h2⟩ := hG6 b hb
          refine ⟨?_, h2⟩
          rcases h1 with h1 | h1
          · exact (hG b h1).1
          · exact .inr (by have := hb5.size; omega)
    · obtain rfl : k = Ll.length := by omega
      go_wp2_with fail
      rw [Exit.noGoto_normal]
      refine bodyPost_end (results_none rfl _ _ _) rfl ⟨⟨_, rfl⟩, T', hFW, hG, .inl ?_⟩
      have := HA.out
      rw [List.drop_length, pagesS, List.append_nil] at this
      rw [this, HD.out]
      exact hJk
end Go.Proofs.Ytiglabknaldinaa
