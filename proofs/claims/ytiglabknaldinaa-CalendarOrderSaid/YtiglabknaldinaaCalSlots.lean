/- calendar's iterator over the windows. -/
import Derived.Test.YtiglabknaldinaaCalPages
namespace Go.Proofs.Ytiglabknaldinaa
open Go.RowKit Go.Shelf
attribute [local go_sem] Oper.semAt_some
/-- a page's windows -/
def pgS (x : Cf) (p : Pg) : List St := slotsS (atD Md0 x.modes.l p.mode.toNat) p.at_
theorem allS_take (x : Cf) (ps : List Pg) {k : Nat} (hk : k < ps.length) : allS x (ps.take (k + 1)) = allS x (ps.take k) ++ pgS x (atD Pg0 ps k) := by
  rw [take_snocG Pg0 _ _ hk]
  simp [allS, pgS]
theorem allS_split (x : Cf) (ps : List Pg) {k : Nat} (hk : k < ps.length) : allS x ps = allS x (ps.take k) ++ (pgS x (atD Pg0 ps k) ++ allS x (ps.drop (k + 1))) := by
  have h : allS x (ps.take (k + 1) ++ ps.drop (k + 1)) = allS x (ps.take (k + 1)) ++ allS x (ps.drop (k + 1)) := List.flatMap_append
  rw [List.take_append_drop, allS_take x ps hk, List.append_assoc] at h
  exact h
theorem allS_lt (x : Cf) (ps : List Pg) {k j : Nat} (hk : k < ps.length) (hj : j < (pgS x (atD Pg0 ps k)).length) : (allS x (ps.take k)).length + j < (allS x ps).length := by
  rw [allS_split x ps hk]
  simp
  omega
theorem atD_app {α : Type} (d : α) (a b c : List α) {j : Nat} (hj : j < b.length) : atD d (a ++ (b ++ c)) (a.length + j) = atD d b j := by
  unfold atD
  rw [List.getD_eq_getElem?_getD, List.getD_eq_getElem?_getD, List.getElem?_append_right (by omega), Nat.add_sub_cancel_left, List.getElem?_append_left hj]
theorem encS_at (x : Cf) (ps : List Pg) {k j : Nat} (hk : k < ps.length) (hj : j < (pgS x (atD Pg0 ps k)).length) : encS (allS x ps) ((allS x (ps.take k)).length + j) = #[.agg #[.int .i64 (atD St0 (pgS x (atD Pg0 ps k)) j).part, .int .i64 (atD St0 (pgS x (atD Pg0 ps k)) j).fr, .int .i64 (atD St0 (pgS x (atD Pg0 ps k)) j).to]] := by
  unfold encS
  rw [allS_split x ps hk, atD_app St0 _ _ _ hj]
  rfl
/-- all pages' modes are modes that there are. -/
theorem pagesS_mode (x : Cf) : ∀ (p : Pg) (l : List Fm) (q : Pg), q ∈ pagesS x p l → 0 ≤ q.mode ∧ q.mode < x.modes.l.length
  | p, [], q, h => by simp [pagesS] at h
  | p, f :: fs, q, h => by
    unfold pagesS at h
    split at h
    · simp at h
    · rename_i r hr
      rcases List.mem_cons.1 h with rfl | h
      · obtain ⟨_, _, _, _, h5, h6, _⟩ := stepS_some hr
        exact ⟨h5, h6⟩
      · exact pagesS_mode x r fs q h
theorem pagesS_ok (x : Cf) (hd : x.shed.down.l.length ≤ 9223372036854775807) (hm : x.modes.l.length ≤ 9223372036854775807) : ∀ (p : Pg) (l : List Fm), PgOk x p → ∀ q ∈ pagesS x p l, PgOk x q
  | p, [], _, q, h => by simp [pagesS] at h
  | p, f :: fs, hp, q, h => by
    unfold pagesS at h
    split at h
    · simp at h
    · rename_i r hr
      have hr' := stepS_ok hp hd hm hr
      rcases List.mem_cons.1 h with rfl | h
      · exact hr'
      · exact pagesS_ok x hd hm r fs hr' q h
set_option maxRecDepth 100000 in
set_option maxHeartbeats 6400000 in
theorem slots1_seq {x : Cf} {L : Hd Fm} {wa w : World} (hx : x.ok wa) (hL : rdFms.ok wa L) (hwa : Below wa.heap.size wa w) (h100 : ∀ m ∈ x.modes.l, m.wins.l.length ≤ 1000) {K : Nat → Prop} {bl bc : Nat} (kl : Blk w bl 34 #[.slice L.A L.l.length L.c]) (kc : Blk w bc 33 #[.slice x.parts.A x.parts.l.length x.parts.c, .slice x.chans.A x.chans.l.length x.chans.c, .slice x.modes.A x.modes.l.length x.modes.c, .slice x.pw.levels.A x.pw.levels.l.length x.pw.levels.c, .slice x.pw.naps.A x.pw.naps.l.length x.pw.naps.c, .int .i64 x.pw.sw, .int .i64 x.pw.idle, .int .i64 x.pw.change, .int .i64 x.pw.quant, .int .i64 x.pw.slow, .int .i64 x.pw.ppm, .slice x.shed.down.A x.shed.down.l.length x.shed.down.c, .slice x.shed.up.A x.shed.up.l.length x.shed.up.c])
    (hK1 : ∀ b, b < wa.heap.size → K b) (hKl : K bl) (hKc : K bc) (hK2 : ∀ b, K b → b < w.heap.size) :
    SeqT Try.prog 30 #[.pointer (some ⟨bc, 0, none⟩), .pointer (some ⟨bl, 0, none⟩)] (encS (allS x (pagesS x Pg0 L.l))) (allS x (pagesS x Pg0 L.l)).length K w := by
  intro l J Jx T W hW hJ hJx hT0 hTb hY h0
  have hn := hL.1.len
  have hxn := hx.2.2.2.2.1.len
  have hmn := hx.2.2.1.1.len
  refine (callsIn_wide (n := 1)).1 (callsIn_of_wp_marks Try.func30 rfl trivial ?_ rfl)
  simp only [Try.ntmps30, List.size_toArray, List.length_cons, List.length_nil, Nat.reduceAdd, Nat.reduceSub, Array.replicate_succ, Array.replicate_zero, List.push_toArray, List.append_toArray, List.nil_append, List.cons_append]
  have kl0 := (kl.fr hW (fun h => h hKl)).alloc (.cells #[.func (.yield l) #[] #[]] 91)
  have kc0 := (kc.fr hW (fun h => h hKc)).alloc (.cells #[.func (.yield l) #[] #[]] 91)
  have ky0 := Blk.new W 91 #[.func (.yield l) #[] #[]]
  have hb0 := (Below.refl W.heap.size W).alloc (Nat.le_refl _) (.cells #[.func (.yield l) #[] #[]] 91)
  have hz0 : (W.alloc (.cells #[.func (.yield l) #[] #[]] 91)).heap.size = W.heap.size + 1 := by simp
  have c0 : (W.alloc (.cells #[.func (.yield l) #[] #[]] 91)).cell? ⟨bc, 0, none⟩ = some (.slice x.parts.A x.parts.l.length x.parts.c) := kc0.cell 0
  have c1 : (W.alloc (.cells #[.func (.yield l) #[] #[]] 91)).cell? ⟨bc, 1, none⟩ = some (.slice x.chans.A x.chans.l.length x.chans.c) := kc0.cell 1
  have c2 : (W.alloc (.cells #[.func (.yield l) #[] #[]] 91)).cell? ⟨bc, 2, none⟩ = some (.slice x.modes.A x.modes.l.length x.modes.c) := kc0.cell 2
  have c3 : (W.alloc (.cells #[.func (.yield l) #[] #[]] 91)).cell? ⟨bc, 3, none⟩ = some (.slice x.pw.levels.A x.pw.levels.l.length x.pw.levels.c) := kc0.cell 3
  have c4 : (W.alloc (.cells #[.func (.yield l) #[] #[]] 91)).cell? ⟨bc, 4, none⟩ = some (.slice x.pw.naps.A x.pw.naps.l.length x.pw.naps.c) := kc0.cell 4
  have c5 : (W.alloc (.cells #[.func (.yield l) #[] #[]] 91)).cell? ⟨bc, 5, none⟩ = some (.int .i64 x.pw.sw) := kc0.cell 5
  have c6 : (W.alloc (.cells #[.func (.yield l) #[] #[]] 91)).cell? ⟨bc, 6, none⟩ = some (.int .i64 x.pw.idle) := kc0.cell 6
  have c7 : (W.alloc (.cells #[.func (.yield l) #[] #[]] 91)).cell? ⟨bc, 7, none⟩ = some (.int .i64 x.pw.change) := kc0.cell 7
  have c8 : (W.alloc (.cells #[.func (.yield l) #[] #[]] 91)).cell? ⟨bc, 8, none⟩ = some (.int .i64 x.pw.quant) := kc0.cell 8
  have c9 : (W.alloc (.cells #[.func (.yield l) #[] #[]] 91)).cell? ⟨bc, 9, none⟩ = some (.int .i64 x.pw.slow) := kc0.cell 9
  have c10 : (W.alloc (.cells #[.func (.yield l) #[] #[]] 91)).cell? ⟨bc, 10, none⟩ = some (.int .i64 x.pw.ppm) := kc0.cell 10
  have c11 : (W.alloc (.cells #[.func (.yield l) #[] #[]] 91)).cell? ⟨bc, 11, none⟩ = some (.slice x.shed.down.A x.shed.down.l.length x.shed.down.c) := kc0.cell 11
  have c12 : (W.alloc (.cells #[.func (.yield l) #[] #[]] 91)).cell? ⟨bc, 12, none⟩ = some (.slice x.shed.up.A x.shed.up.l.length x.shed.up.c) := kc0.cell 12
  have l0 : (W.alloc (.cells #[.func (.yield l) #[] #[]] 91)).cell? ⟨bl, 0, none⟩ = some (.slice L.A L.l.length L.c) := kl0.cell 0
  gi_wp2
  generalize W.alloc (.cells #[.func (.yield l) #[] #[]] 91) = W0 at kl0 kc0 ky0 hb0 hz0 ⊢
  have hbW : Below wa.heap.size wa W := hwa.trans (hW.below (fun k hk h => h (hK1 k hk)) hwa.size)
  have hbW0 : Below wa.heap.size wa W0 := hbW.trans (hb0.mono hbW.size)
  have hKW : ∀ b, K b → b < W.heap.size := fun b h => Nat.lt_of_lt_of_le (hK2 b h) hW.size
  refine ⟨trivial, callsIn_wide.2 ((pages_any (w := W0) hx hL hbW0 (fun b => K b ∨ b = W.heap.size) (fun b h => by rcases h with h | h; have := hKW b h; omega; omega)).mono ?_)⟩
  rintro e w2 ⟨bl', bc', rfl, hseq, hb2, hbl, hbc, hbl2, hbc2⟩
  have ky2 := ky0.keep hb2
  have kc2 := kc0.keep hb2
  have hB2 := hbW0.trans (hb2.mono hbW0.size)
  have hs2 := hb2.size
  have hB02 : Below W.heap.size W w2 := hb0.trans (hb2.mono hb0.size)
  clear c0 c1 c2 c3 c4 c5 c6 c7 c8 c9 c10 c11 c12 l0 kl0 kc0 ky0 hb2 hbW0
  gi_wp2
  have hKp1 : ∀ b, (K b ∨ b = W.heap.size) → b < w2.heap.size := fun b h => by
    rcases h with h | h
    · have := hKW b h; omega
    · omega
  have hKpW : ∀ b, (b < wa.heap.size ∨ b = bl' ∨ b = bc' ∨ (K b ∨ b = W.heap.size)) → b < w2.heap.size := fun b h => by
    rcases h with h | h | h | h
    · have := hB2.size; omega
    · omega
    · omega
    · exact hKp1 b h
  refine wp_range (gf := 22) (Kp := fun b => b < wa.heap.size ∨ b = bl' ∨ b = bc' ∨ (K b ∨ b = W.heap.size)) rfl (enters_of Try.func22 (by kernel_rfl) rfl) hseq hKpW (Fr.refl _ _) (fun _ => rfl)
    (fun k T' V => ∃ Tj, J (allS x ((pagesS x Pg0 L.l).take k)).length Tj V ∧ (∀ b, Tj b → T' b) ∧ Bnd Tj V ∧ (∀ b, Tj b → T b ∨ w2.heap.size ≤ b) ∧ Blk V W.heap.size 91 #[.func (.yield l) #[] #[]] ∧ Blk V bc 33 #[.slice x.parts.A x.parts.l.length x.parts.c, .slice x.chans.A x.chans.l.length x.chans.c, .slice x.modes.A x.modes.l.length x.modes.c, .slice x.pw.levels.A x.pw.levels.l.length x.pw.levels.c, .slice x.pw.naps.A x.pw.naps.l.length x.pw.naps.c, .int .i64 x.pw.sw, .int .i64 x.pw.idle, .int .i64 x.pw.change, .int .i64 x.pw.quant, .int .i64 x.pw.slow, .int .i64 x.pw.ppm, .slice x.shed.down.A x.shed.down.l.length x.shed.down.c, .slice x.shed.up.A x.shed.up.l.length x.shed.up.c] ∧ Below wa.heap.size wa V ∧ w2.heap.size ≤ V.heap.size)
    (fun c _ T' V => c = .ret ∧ ∃ Tj j, j ≤ (allS x (pagesS x Pg0 L.l)).length ∧ Jx j Tj V ∧ (∀ b, Tj b → T' b)) ?_ ?_ T (fun b h h' => ?_) (fun b h => by have := hTb b h; omega)
    ⟨T, hJ _ _ _ _ h0 (Fr.of_below hB02 _), fun b h => h, fun b h => by have := hTb b h; omega, fun b h => .inl h, ky2, kc2, hB2, Nat.le_refl _⟩
    (fun k a' T' V => ∃ g Tj, a' = { tmps := #[.func (.yield l) #[] #[], .pointer (some ⟨bc, 0, none⟩), .pointer (some ⟨bl, 0, none⟩), .pointer (some ⟨W.heap.size, 0, none⟩), .pointer (some ⟨g, 0, none⟩), undef, undef, .agg #[.slice x.parts.A x.parts.l.length x.parts.c, .slice x.chans.A x.chans.l.length x.chans.c, .slice x.modes.A x.modes.l.length x.modes.c, .slice x.pw.levels.A x.pw.levels.l.length x.pw.levels.c, .slice x.pw.naps.A x.pw.naps.l.length x.pw.naps.c, .int .i64 x.pw.sw, .int .i64 x.pw.idle, .int .i64 x.pw.change, .int .i64 x.pw.quant, .int .i64 x.pw.slow, .int .i64 x.pw.ppm, .slice x.shed.down.A x.shed.down.l.length x.shed.down.c, .slice x.shed.up.A x.shed.up.l.length x.shed.up.c], .slice L.A L.l.length L.c, .func (.func 22) #[] #[.pointer (some ⟨bl', 0, none⟩), .pointer (some ⟨bc', 0, none⟩)], .agg #[.int .i64 (atD Pg0 (pagesS x Pg0 L.l) k).at_, .int .i64 (atD Pg0 (pagesS x Pg0 L.l) k).end_, .int .i64 (atD Pg0 (pagesS x Pg0 L.l) k).mode, .int .i64 (atD Pg0 (pagesS x Pg0 L.l) k).level], undef, undef, undef, undef, undef, undef, undef, undef, undef, undef, undef, undef, undef, undef, undef, undef, undef, undef, undef], defers := [] } ∧ T' g ∧ w2.heap.size ≤ g ∧ ¬ Tj g ∧ Blk V g 42 #[.int .i64 (atD Pg0 (pagesS x Pg0 L.l) k).at_, .int .i64 (atD Pg0 (pagesS x Pg0 L.l) k).end_, .int .i64 (atD Pg0 (pagesS x Pg0 L.l) k).mode, .int .i64 (atD Pg0 (pagesS x Pg0 L.l) k).level] ∧ J (allS x ((pagesS x Pg0 L.l).take k)).length Tj V ∧ (∀ b, Tj b → T' b) ∧ Bnd Tj V ∧ (∀ b, Tj b → T b ∨ w2.heap.size ≤ b) ∧ Blk V W.heap.size 91 #[.func (.yield l) #[] #[]] ∧ Blk V bc 33 #[.slice x.parts.A x.parts.l.length x.parts.c, .slice x.chans.A x.chans.l.length x.chans.c, .slice x.modes.A x.modes.l.length x.modes.c, .slice x.pw.levels.A x.pw.levels.l.length x.pw.levels.c, .slice x.pw.naps.A x.pw.naps.l.length x.pw.naps.c, .int .i64 x.pw.sw, .int .i64 x.pw.idle, .int .i64 x.pw.change, .int .i64 x.pw.quant, .int .i64 x.pw.slow, .int .i64 x.pw.ppm, .slice x.shed.down.A x.shed.down.l.length x.shed.down.c, .slice x.shed.up.A x.shed.up.l.length x.shed.up.c] ∧ Below wa.heap.size wa V ∧ w2.heap.size ≤ V.heap.size)
    ?_ ?_ ?_ ?_ ?_
  · rintro k T' V V' ⟨Tj, h1, h2, h3, h4, h5, h6, h7, h8⟩ hf
    refine ⟨Tj, hJ _ _ _ _ h1 (hf.mono fun b _ h => ⟨fun h' => h.1 (h2 b h'), fun h' => h.2 (.inr (.inr (.inr (.inl h'))))⟩), h2, fun b h => Nat.lt_of_lt_of_le (h3 b h) hf.size, h4, h5.fr hf (fun h => h.2 (.inr (.inr (.inr (.inr rfl))))), h6.fr hf (fun h => h.2 (.inr (.inr (.inr (.inl hKc))))), h7.trans (hf.below (fun b hb h => h.2 (.inl hb)) h7.size), Nat.le_trans h8 hf.size⟩
  · rintro c k T' V V' ⟨rfl, Tj, j, hj, h1, h2⟩ hf
    exact ⟨rfl, Tj, j, hj, hJx _ _ _ _ h1 (hf.mono fun b _ h => ⟨fun h' => h.1 (h2 b h'), fun h' => h.2 (.inr (.inr (.inr (.inl h'))))⟩), h2⟩
  · rcases h' with h' | h' | h' | h' | h'
    · exact hT0 b h (hK1 b h')
    · have := hTb b h; omega
    · have := hTb b h; omega
    · exact hT0 b h h'
    · have := hTb b h; omega
  · rintro a' k T' V V' ⟨g, Tj, rfl, h0, hg, hng, hbk, h1, h2, h3, h4, h5, h6, h7, h8⟩ hf
    exact ⟨g, Tj, rfl, h0, hg, hng, hbk.fr hf (fun h => h.1 h0), hJ _ _ _ _ h1 (hf.mono fun b _ h => ⟨fun h' => h.1 (h2 b h'), fun h' => h.2 (.inr (.inr (.inr (.inl h'))))⟩), h2, fun b h => Nat.lt_of_lt_of_le (h3 b h) hf.size, h4, h5.fr hf (fun h => h.2 (.inr (.inr (.inr (.inr rfl))))), h6.fr hf (fun h => h.2 (.inr (.inr (.inr (.inl hKc))))), h7.trans (hf.below (fun b hb h => h.2 (.inl hb)) h7.size), Nat.le_trans h8 hf.size⟩
  · rintro ll k T' V Kk hk ⟨Tj, h1, h2, h3, h4, h5, h6, h7, hg9⟩ hT hKk
    simp only [encP, Pg.v]
    gi_wp2
    have hb9 := (Below.refl V.heap.size V).alloc (Nat.le_refl _) (.cells #[.int .i64 (atD Pg0 (pagesS x Pg0 L.l) k).at_, .int .i64 (atD Pg0 (pagesS x Pg0 L.l) k).end_, .int .i64 (atD Pg0 (pagesS x Pg0 L.l) k).mode, .int .i64 (atD Pg0 (pagesS x Pg0 L.l) k).level] 42)
    have hz9 : (V.alloc (.cells #[.int .i64 (atD Pg0 (pagesS x Pg0 L.l) k).at_, .int .i64 (atD Pg0 (pagesS x Pg0 L.l) k).end_, .int .i64 (atD Pg0 (pagesS x Pg0 L.l) k).mode, .int .i64 (atD Pg0 (pagesS x Pg0 L.l) k).level] 42)).heap.size = V.heap.size + 1 := by simp
    refine hKk _ (fun b => T' b ∨ b = V.heap.size) _ ((Fr.refl T' V).alloc _) ?_ ⟨V.heap.size, Tj, rfl, .inr rfl, hg9, fun h => by have := h3 _ h; omega, Blk.new _ _ _, hJ _ _ _ _ h1 (Fr.of_below hb9 _), fun b h => .inl (h2 b h), fun b h => by have := h3 b h; omega, h4, h5.keep hb9, h6.keep hb9, h7.trans (hb9.mono h7.size), Nat.le_trans hg9 hb9.size⟩
    rintro b (h | h)
    · exact ⟨.inl h, by have := hT b h; omega⟩
    · exact ⟨.inr (by omega), by omega⟩
  · rintro ll k a' T' V hk ⟨g, Tj, rfl, h0, hg, hng, hbk, h1, h2, h3, h4, h5, h6, h7, h8⟩ hT
    have hmem := atD_mem (d := Pg0) hk
    obtain ⟨hq0, hq1⟩ := pagesS_mode x Pg0 L.l _ hmem
    have hqo := pagesS_ok x hxn hmn Pg0 L.l (pg0_ok x) _ hmem
    have hE := fun j hj => encS_at x (pagesS x Pg0 L.l) hk (j := j) hj
    have hlt := fun j hj => allS_lt x (pagesS x Pg0 L.l) hk (j := j) hj
    have hof := congrArg List.length (allS_take x (pagesS x Pg0 L.l) hk)
    rw [List.length_append] at hof
    unfold pgS at hE hlt hof
    generalize atD Pg0 (pagesS x Pg0 L.l) k = q at hq0 hq1 hqo hE hlt hof hbk ⊢
    generalize hoo : (allS x ((pagesS x Pg0 L.l).take k)).length = off at hE hlt hof h1 ⊢
    clear hoo hmem
    obtain ⟨qa, qe, qm, ql⟩ := q
    simp only at hq0 hq1 hE hlt hof hbk ⊢
    obtain ⟨m, rfl⟩ := Int.eq_ofNat_of_zero_le hq0
    rw [Int.toNat_natCast] at hE hlt hof
    have hm : m < x.modes.l.length := by omega
    have hxv := rdMds.keep hx.2.2.1 h7
    obtain ⟨mb, mo, hA, hmb, hmc⟩ := hxv.1.at_ Md0 hm
    have hmd := hxv.2 _ (atD_mem (d := Md0) hm)
    have hm1 := h100 _ (atD_mem (d := Md0) hm)
    have m0 : V.cell? ⟨mb, mo + m * 2, none⟩ = some (.int .i64 (atD Md0 x.modes.l m).frame) := hmc 0 _ rfl
    have m1 : V.cell? ⟨mb, mo + m * 2 + 1, none⟩ = some (.slice (atD Md0 x.modes.l m).wins.A (atD Md0 x.modes.l m).wins.l.length (atD Md0 x.modes.l m).wins.c) := hmc 1 _ rfl
    have c2 : V.cell? ⟨bc, 2, none⟩ = some (.slice x.modes.A x.modes.l.length x.modes.c) := h6.cell 2
    rw [hA] at c2
    have g0 : V.cell? ⟨g, 0, none⟩ = some (.int .i64 qa) := hbk.cell 0
    have g2 : V.cell? ⟨g, 2, none⟩ = some (.int .i64 (m : Int)) := hbk.cell 2
    have hlg := hbk.lt
    have hlc := h6.lt
    have hqa := hqo.a
    simp only at hqa
    have ha64 : i64 qa := by unfold i64; omega
    have HE := Lib.hid hE
    have HO := Lib.hid hof
    have HA := Lib.hid hA
    clear hmc hA hqo hE hof
    gi_wp2
    refine wpIn_region_fen (fun _ => False) [(8, 0)] (by kernel_rfl) (by kernel_rfl) (by kernel_rfl) (fun _ _ h => h) ?_
    simp only [wpSegsF, List.take, List.drop]
    repeat (go_big_quiet_step (fail))
    refine wpQuiet_nil (wpHeadF_want rfl (fun K' hK' => ?_))
    go_wp2_with fail
    refine (slots_any (atD Md0 x.modes.l m) (w := V.drew) (rdMd.keep hmd (Below.drew (Below.refl _ _))) hm1 qa ha64).mono ?_
    rintro e V1 ⟨v1, rfl, hown1, hb1⟩
    replace hb1 : Below V.heap.size V V1 := (Below.drew (Below.refl _ V)).trans hb1
    obtain ⟨SA, sc, rfl, hs1, hbase⟩ := SlG.of_own hown1 (fun _ _ => rfl) rfl
    refine hK' _ _ rfl (fr_graft (Fr.of_below hb1 _)) ?_
    clear hK' K' m0 m1 c2 g0 g2 hown1
    try simp only [wpSegsF]
    repeat (go_big_quiet_step (fail))
    refine wpQuiet_nil ?_
    have hbase' : ∀ b o, SA = some ⟨b, o, none⟩ → V.heap.size ≤ b := hbase
    have hsn := hs1.len
    generalize slotsS (atD Md0 x.modes.l m) qa = ss at HE hlt HO hs1 hsn ⊢
    have ky1 := h5.keep hb1
    have kc1 := h6.keep hb1
    have hB1 := h7.trans (hb1.mono h7.size)
    have hJ1 := hJ _ _ _ _ h1 (Fr.of_below hb1 _)
    have hsV := hb1.size
    have hTy : ¬ Tj W.heap.size := fun h => by
      rcases h4 _ h with h | h
      · have := hTb _ h; omega
      · omega
    have hTc : ¬ Tj bc := fun h => by
      rcases h4 _ h with h | h
      · exact hT0 _ h hKc
      · have := hKW bc hKc; omega
    have hTa : ∀ b, b < wa.heap.size → ¬ Tj b := fun b hb h => by
      rcases h4 _ h with h | h
      · exact hT0 _ h (hK1 b hb)
      · have := hB2.size; omega
    clear hbase hxv hmd
    gi_wp2
    gi_loopw [21] (fun i V2 => ∃ (j : Nat) (Tk : Nat → Prop), j ≤ ss.length ∧ i = .int .i64 (j : Int) ∧ J (off + j) Tk V2 ∧ Fr Tj V1 V2 ∧ Grw Tj Tk V1 V2) (fun i _ => ss.length - (intOf i).toNat)
    case atStart => exact ⟨0, Tj, Nat.zero_le _, rfl, hJ1, Fr.refl _ _, fun b hb => ⟨.inl hb, by have := h3 b hb; omega⟩⟩
    case round =>
      obtain ⟨j, Tk, hj, rfl, hJk, hF, hG⟩ := hrel
      have hFs := hF.size
      by_cases hjn : j < ss.length
      · obtain ⟨sb, so, rfl, hsb, hsc⟩ := hs1.at_ St0 hjn
        have hsbV := hbase' _ _ rfl
        have hnsb : ¬ Tj sb := fun h => by have := h3 _ h; omega
        have s0 : wr.cell? ⟨sb, so + j * 3, none⟩ = some (.int .i64 (atD St0 ss j).part) := (hF.cell (p := ⟨sb, _, none⟩) hsb hnsb).trans (hsc 0 _ rfl)
        have s1 : wr.cell? ⟨sb, so + j * 3 + 1, none⟩ = some (.int .i64 (atD St0 ss j).fr) := (hF.cell (p := ⟨sb, _, none⟩) hsb hnsb).trans (hsc 1 _ rfl)
        have s2 : wr.cell? ⟨sb, so + j * 3 + 2, none⟩ = some (.int .i64 (atD St0 ss j).to) := (hF.cell (p := ⟨sb, _, none⟩) hsb hnsb).trans (hsc 2 _ rfl)
        have hE1 := HE.out j hjn
        have hltj := hlt j hjn
        clear hsc
        generalize atD St0 ss j = st at s0 s1 s2 hE1
        have ky3 := (ky1.fr hF hTy).alloc (.cells #[.int .i64 st.part, .int .i64 st.fr, .int .i64 st.to] 51)
        have y0 : (wr.alloc (.cells #[.int .i64 st.part, .int .i64 st.fr, .int .i64 st.to] 51)).cell? ⟨W.heap.size, 0, none⟩ = some (.func (.yield l) #[] #[]) := ky3.cell 0
        have hb9 := (Below.refl wr.heap.size wr).alloc (Nat.le_refl _) (.cells #[.int .i64 st.part, .int .i64 st.fr, .int .i64 st.to] 51)
        have hz9 : (wr.alloc (.cells #[.int .i64 st.part, .int .i64 st.fr, .int .i64 st.to] 51)).heap.size = wr.heap.size + 1 := by simp
        have hY1 := hY (off + j) Tk (wr.alloc (.cells #[.int .i64 st.part, .int .i64 st.fr, .int .i64 st.to] 51)) hltj (hJ _ _ _ _ hJk (Fr.of_below hb9 _)) (fun b hb => by have := (hG b hb).2; omega)
        rw [hE1] at hY1
        obtain ⟨fn, tmps, assign, body, hy, hR⟩ := hY1
        clear hE1
        have HZ := Lib.hid hz9
        clear hz9
        gi_wp2
        refine ⟨rfl, RoundIn.mono (F := Fence.wide.inRound ll) hR ?_⟩
        rintro e V4 ⟨T2, hF4, hG4, (⟨rfl, hJ4⟩ | ⟨rfl, hJx4⟩)⟩
        · have _d := True.intro
          have hs4 := hF4.size
          have hz9 := HZ.out
          have hF9 : Fr Tj V1 V4 := (hF.trans (Fr.of_below hb9 Tj)).trans' hF4 (fun b hb h => ((hG b h).1).resolve_right (by omega))
          have hG9 : Grw Tj T2 V1 V4 := fun b hb => by
            obtain ⟨e1, e2⟩ := hG4 b hb
            refine ⟨?_, e2⟩
            rcases e1 with e1 | e1
            · exact (hG b e1).1
            · exact .inr (by omega)
          gi_wp2
          exact ⟨⟨j + 1, T2, by omega, by go_num, hJ4, hF9, hG9⟩, by simp [intOf]; omega⟩
        · have _d := True.intro
          have hs4 := hF4.size
          have hz9 := HZ.out
          have hF9 : Fr Tj V1 V4 := (hF.trans (Fr.of_below hb9 Tj)).trans' hF4 (fun b hb h => ((hG b h).1).resolve_right (by omega))
          have hG9 : Grw Tj T2 V1 V4 := fun b hb => by
            obtain ⟨e1, e2⟩ := hG4 b hb
            refine ⟨?_, e2⟩
            rcases e1 with e1 | e1
            · exact (hG b e1).1
            · exact .inr (by omega)
          gi_wp2
          have hT9 : ∀ b, T2 b → T' b ∨ (V.heap.size ≤ b ∧ b < V4.heap.size) := fun b hb => by
            obtain ⟨e1, e2⟩ := hG9 b hb
            rcases e1 with e1 | e1
            · exact .inl (h2 b e1)
            · exact .inr ⟨by omega, e2⟩
          refine ⟨fun b => T' b ∨ (V.heap.size ≤ b ∧ b < V4.heap.size), (Fr.of_below hb1 T').trans' hF9 (fun b hb h => h2 b h), ?_, rfl, T2, _, by omega, hJx4, hT9⟩
          rintro b (h | h)
          · exact ⟨.inl h, by have := hT b h; omega⟩
          · exact ⟨.inr h.1, h.2⟩
      · obtain rfl : j = ss.length := by omega
        gi_wp2
        have hT9 : ∀ b, Tk b → T' b ∨ (V.heap.size ≤ b ∧ b < wr.heap.size) := fun b hb => by
          obtain ⟨e1, e2⟩ := hG b hb
          rcases e1 with e1 | e1
          · exact .inl (h2 b e1)
          · exact .inr ⟨by omega, e2⟩
        refine ⟨fun b => T' b ∨ (V.heap.size ≤ b ∧ b < wr.heap.size), (Fr.of_below hb1 T').trans' hF (fun b hb h => h2 b h), ?_, Tk, ?_, hT9, fun b hb => (hG b hb).2, fun b hb => ?_, ky1.fr hF hTy, kc1.fr hF hTc, hB1.trans (hF.below hTa hB1.size), by omega⟩
        · rintro b (h | h)
          · exact ⟨.inl h, by have := hT b h; omega⟩
          · exact ⟨.inr h.1, h.2⟩
        · rw [HO.out]
          exact hJk
        · rcases (hG b hb).1 with e1 | e1
          · exact h4 b e1
          · exact .inr (by omega)
  · rintro D T' V hD hnD hF hG ⟨Tj, h1, h2, h3, h4, h5, h6, h7, h8⟩ hK
    gi_wp2
    refine ⟨by simp, .inl ⟨_, _, rfl, run_takeDeferred hK, ?_⟩⟩
    have hDK : ¬ K D := fun h => by have := hKW D h; omega
    refine ⟨_, results_none rfl _ _ _, ⟨_, rfl⟩, Tj, (((Fr.of_below hB02 T).trans hF).putObj (l := D) (fun h => by omega) _), fun b hb => ?_, .inl ?_⟩
    · obtain ⟨e1, e2⟩ := hG b (h2 b hb)
      refine ⟨?_, by simpa using e2⟩
      rcases e1 with e1 | e1
      · exact .inl e1
      · exact .inr (by omega)
    · rw [List.take_length] at h1
      exact hJ _ _ _ _ h1 ((Fr.refl _ V).putObj (fun _ => ⟨fun h => hnD (h2 _ h), hDK⟩) _)
  · rintro D c k T' V hk hD hnD hF hG ⟨rfl, Tj, j, hj, h1, h2⟩ hK
    gi_wp2
    refine ⟨by simp, .inl ⟨_, _, rfl, run_takeDeferred hK, ?_⟩⟩
    have hDK : ¬ K D := fun h => by have := hKW D h; omega
    refine ⟨_, results_none rfl _ _ _, ⟨_, rfl⟩, Tj, (((Fr.of_below hB02 T).trans hF).putObj (l := D) (fun h => by omega) _), fun b hb => ?_, .inr ⟨j, hj, hJx _ _ _ _ h1 ((Fr.refl _ V).putObj (fun _ => ⟨fun h => hnD (h2 _ h), hDK⟩) _)⟩⟩
    · obtain ⟨e1, e2⟩ := hG b (h2 b hb)
      refine ⟨?_, by simpa using e2⟩
      rcases e1 with e1 | e1
      · exact .inl e1
      · exact .inr (by omega)
end Go.Proofs.Ytiglabknaldinaa
