/- The document's memory: New walked. -/
import Derived.Test.YtpgglefimdllbaaMrMore
namespace Go.Proofs.Ytpgglefimdllbaa
open Go.RowKit
def spC (x : Xs) : List Value := [.slice x.A x.n x.c]
def RNewI (w : World) (r : Nat) (vL vB : Value) (kL kB : Nat) (XS : List Xs) (L : List Sg) : Prop :=
  Blk w r 49 #[vL, vB] ∧ w.ownsRow r 26 3 vL kL ((L.take kL).flatMap sgC) ∧ w.ownsRow r 39 1 vB kB (XS.flatMap spC) ∧ XS.length = kB ∧ vL.ownBlock ≠ some r ∧ vB.ownBlock ≠ some r ∧ (∀ b, vL.ownBlock = some b → vB.ownBlock ≠ some b) ∧
  ∀ i, i < kB → SlB w (atD xs0 XS i).A (atD xs0 XS i).n (atD xs0 XS i).c (z0 (atD sg0 L i)) ∧ ∀ b o, 0 < (atD xs0 XS i).n → (atD xs0 XS i).A = some ⟨b, o, none⟩ → r < b ∧ vL.ownBlock ≠ some b ∧ vB.ownBlock ≠ some b
theorem RNewI.keep {w w' : World} {r : Nat} {vL vB : Value} {kL kB : Nat} {XS : List Xs} {L : List Sg} (h : RNewI w r vL vB kL kB XS L) (hb : Below w.heap.size w w') : RNewI w' r vL vB kL kB XS L := by
  obtain ⟨h1, h2, h3, h4, h5, h6, h7, h8⟩ := h
  exact ⟨h1.keep hb, own_below h2 hb, own_below h3 hb, h4, h5, h6, h7, fun i hi => ⟨(h8 i hi).1.keep hb, (h8 i hi).2⟩⟩
theorem SlB.blk_lt {w : World} {A : Option Addr} {n c : Nat} {l : List UInt8} (h : SlB w A n c l) : ∀ b o, 0 < n → A = some ⟨b, o, none⟩ → b < w.heap.size := fun b o hp e => by
  obtain ⟨b', o', e', hb, _⟩ := h.1.at_ hp
  rw [e'] at e
  cases e
  exact hb
/-- a region is appended. -/
theorem RNewI.stepL {w w' : World} {r : Nat} {vL vB v' : Value} {kL kB : Nat} {XS : List Xs} {L : List Sg} (h : RNewI w r vL vB kL kB XS L) (hf : Fr (fun j => j = r ∨ vL.ownBlock = some j) w w') (hr : Blk w' r 49 #[v', vB])
    (ho : w'.ownsRow r 26 3 v' (kL + 1) ((L.take (kL + 1)).flatMap sgC)) (hv : v'.ownBlock = vL.ownBlock ∨ ∃ g, v'.ownBlock = some g ∧ w.heap.size ≤ g) : RNewI w' r v' vB (kL + 1) kB XS L := by
  obtain ⟨h1, h2, h3, h4, h5, h6, h7, h8⟩ := h
  have hrl := h1.lt
  have hBl := own_lt h3
  have hold : ∀ b, b < w.heap.size → vL.ownBlock ≠ some b → v'.ownBlock ≠ some b := fun b hb hn => by
    rcases hv with hv | ⟨g, hv, hg⟩
    · rw [hv]; exact hn
    · rw [hv]; intro e; cases e; omega
  refine ⟨hr, ho, own_fr (S := fun j => j = r ∨ vL.ownBlock = some j) h3 hf (fun j _ e hj => by rcases hj with rfl | hj; exact h6 e; exact h7 j hj e), h4, hold r hrl h5, h6, fun b hb hb2 => ?_, fun i hi => ?_⟩
  · rcases hv with hv | ⟨g, hv, hg⟩
    · rw [hv] at hb; exact h7 b hb hb2
    · rw [hv] at hb; cases hb; have := hBl _ hb2; omega
  · obtain ⟨s1, s2⟩ := h8 i hi
    refine ⟨s1.fr hf (fun b o hp e hj => ?_), fun b o hp e => ?_⟩
    · obtain ⟨n1, n2, n3⟩ := s2 b o hp e
      rcases hj with rfl | hj
      · omega
      · exact n2 hj
    · obtain ⟨n1, n2, n3⟩ := s2 b o hp e
      exact ⟨n1, hold b (s1.blk_lt b o hp e) n2, n3⟩
/-- a region's bytes are appended. -/
theorem RNewI.stepB {w w' : World} {r : Nat} {vL vB v' : Value} {kL kB : Nat} {XS : List Xs} {L : List Sg} (h : RNewI w r vL vB kL kB XS L) (hf : Fr (fun j => j = r ∨ vB.ownBlock = some j) w w') (hr : Blk w' r 49 #[vL, v']) {q : Nat} {m : Nat}
    (ho : w'.ownsRow r 39 1 v' (kB + 1) ((XS ++ [(⟨some ⟨q, 0, none⟩, m, m⟩ : Xs)]).flatMap spC)) (hq : w.heap.size ≤ q) (hs : SlB w' (some ⟨q, 0, none⟩) m m (z0 (atD sg0 L kB))) (hv : v'.ownBlock = vB.ownBlock ∨ ∃ g, v'.ownBlock = some g ∧ w.heap.size ≤ g ∧ g ≠ q) : RNewI w' r vL v' kL (kB + 1) (XS ++ [(⟨some ⟨q, 0, none⟩, m, m⟩ : Xs)]) L := by
  obtain ⟨h1, h2, h3, h4, h5, h6, h7, h8⟩ := h
  have hrl := h1.lt
  have hLl := own_lt h2
  have hBl := own_lt h3
  have hold : ∀ b, b < w.heap.size → vB.ownBlock ≠ some b → v'.ownBlock ≠ some b := fun b hb hn => by
    rcases hv with hv | ⟨g, hv, hg⟩
    · rw [hv]; exact hn
    · rw [hv]; intro e; cases e; omega
  refine ⟨hr, own_fr (S := fun j => j = r ∨ vB.ownBlock = some j) h2 hf (fun j _ e hj => by rcases hj with rfl | hj; exact h5 e; exact h7 j e hj), ho, by rw [List.length_append, h4]; rfl, h5, hold r hrl h6, fun b hb => hold b (hLl b hb) (h7 b hb), fun i hi => ?_⟩
  rw [atD_app, h4]
  by_cases hik : i < kB
  · rw [if_pos hik]
    obtain ⟨s1, s2⟩ := h8 i hik
    refine ⟨s1.fr hf (fun b o hp e hj => ?_), fun b o hp e => ?_⟩
    · obtain ⟨n1, n2, n3⟩ := s2 b o hp e
      rcases hj with rfl | hj
      · omega
      · exact n3 hj
    · obtain ⟨n1, n2, n3⟩ := s2 b o hp e
      exact ⟨n1, n2, hold b (s1.blk_lt b o hp e) n3⟩
  · obtain rfl : i = kB := by omega
    rw [if_neg hik, if_pos rfl]
    refine ⟨hs, fun b o hp e => ?_⟩
    cases e
    refine ⟨by omega, fun e => by have := hLl _ e; omega, ?_⟩
    rcases hv with hv | ⟨g, hv, hg, hgq⟩
    · rw [hv]; intro e; have := hBl _ e; omega
    · rw [hv]; intro e; cases e; exact hgq rfl
theorem spC_len (l : List Xs) : (l.flatMap spC).length = l.length := by rw [flat_len l (sz := 1) (fun _ _ => rfl), Nat.mul_one]
theorem spC_get (l : List Xs) : ∀ i, i < l.length → (l.flatMap spC)[i]? = some (.slice (atD xs0 l i).A (atD xs0 l i).n (atD xs0 l i).c) := fun i hi => by
  have := flat_get (f := spC) (sz := 1) xs0 l (fun _ _ => rfl) i 0 hi (by decide)
  rw [Nat.mul_one, Nat.add_zero] at this
  exact this
theorem RNewI.done {w : World} {r : Nat} {vL vB : Value} {XS : List Xs} {L G : List Sg} {k : Nat} (h : RNewI w r vL vB k k XS L) (hG : L.take k = G) (hk : G.length = k) (h4 : k ≤ 4) (hok : ∀ s ∈ G, s.ok) : RefX w r r G (G.map z0) := by
  obtain ⟨h1, h2, h3, h5, h6, h7, h8, h9⟩ := h
  rw [hG] at h2
  obtain ⟨A1, c1, rfl, hs1, hA1⟩ := SlG.of_own h2 (fun _ _ => rfl) hk
  have hat : ∀ i, i < k → atD [] (G.map z0) i = z0 (atD sg0 L i) := fun i hi => by
    have e1 : atD sg0 G i = atD sg0 L i := by
      rw [← hG]
      unfold atD
      rw [List.getD_eq_getElem?_getD, List.getD_eq_getElem?_getD, List.getElem?_take, if_pos hi]
    rw [atD_lt (by simpa using (by omega : i < G.length)), ← e1, atD_lt (by omega), List.getElem_map]
  subst hk
  obtain ⟨hxl, ⟨rfl, h0⟩ | ⟨ob, cap, cur, rfl, hbo, hh, hnc, _, hcs, hct⟩⟩ := h3
  · exact ⟨A1, c1, none, 0, XS, by rw [h0] at h1 ⊢; exact h1, hs1, h5, by simp, Nat.le_refl _, h4, hok, fun b o _ e => hA1 b o e, fun hp => by omega⟩
  · refine ⟨A1, c1, _, cap, XS, h1, hs1, h5, by simp, Nat.le_refl _, h4, hok, fun b o _ e => hA1 b o e, fun hp => ⟨ob, cur, _, rfl, hh, hbo, fun e => h7 (by rw [← e]; rfl), fun b o e e2 => h8 b (by rw [e]; rfl) (by rw [e2]; rfl), fun i hi => ?_⟩⟩
    obtain ⟨s1, s2⟩ := h9 i hi
    rw [hat i hi]
    refine ⟨?_, s1, z0_le _, fun b o hp e => ?_⟩
    · have hg := spC_get XS i (by omega)
      rw [← hct, Nat.mul_one, List.getElem?_take, if_pos hi] at hg
      simpa using hg
    · obtain ⟨n1, n2, n3⟩ := s2 b o hp e
      exact ⟨by omega, fun e2 => n3 (by rw [e2]; rfl)⟩
theorem rg_info : (Try.prog.info? 26).map (fun i => (i.zero, i.size, i.bytes)) = some (some (.agg #[.int .i64 0, .int .i64 0, .bool false]), 3, 24) := by kernel_rfl
theorem sl_info : (Try.prog.info? 39).map (fun i => (i.zero, i.size, i.bytes)) = some (some (.slice none 0 0), 1, 24) := by kernel_rfl
theorem u_rgs : Try.prog.underlying 27 = some (.slice 26) := by kernel_rfl
theorem u_bss : Try.prog.underlying 47 = some (.slice 39) := by kernel_rfl
set_option maxRecDepth 100000 in
set_option maxHeartbeats 6400000 in
theorem newRef_any {w : World} {A : Option Addr} {n c : Nat} {L : List Sg} (h : SlG w A n c 3 sgC L) (hok : ∀ s ∈ L, s.ok) :
    Calls Try.prog 11 #[.slice A n c] w fun e w' => e = .returned (.pointer (some ⟨w.heap.size, 0, none⟩)) ∧ RefX w' w.heap.size w.heap.size (L.take 4) ((L.take 4).map z0) ∧ Below w.heap.size w w' := by
  have hln := h.2.1
  have hn63 := h.len
  obtain ⟨i0, hi0, hz0, hz1, hz2⟩ := info_parts rg_info
  obtain ⟨i1, hi1, hy0, hy1, hy2⟩ := info_parts sl_info
  have hokG : ∀ s ∈ L.take 4, s.ok := fun s hs => hok s (List.mem_of_mem_take hs)
  have b1 := Blk.new w 49 #[.slice none 0 0, .slice none 0 0]
  have hb1 := (Below.refl w.heap.size w).alloc (Nat.le_refl _) (.cells #[.slice none 0 0, .slice none 0 0] 49)
  go_enter Try.func11, Try.ntmps11
  go_upto_region 2 with fail
  generalize w.alloc (.cells #[.slice none 0 0, .slice none 0 0] 49) = w1 at b1 hb1 ⊢
  have hN0 : RNewI w1 w.heap.size (.slice none 0 0) (.slice none 0 0) 0 0 [] L := ⟨b1, World.ownsRow_nil _ _ _ _, World.ownsRow_nil _ _ _ _, rfl, (fun e => by cases e), (fun e => by cases e), (fun b e => by cases e), (fun i hi => by omega)⟩
  clear b1
  go_wp2_with fail
  go_loopw [4] (fun i wr => ∃ (k : Nat) (vL vB : Value) (XS : List Xs), k ≤ n ∧ k ≤ 4 ∧ i = .int .i64 (k : Int) ∧ RNewI wr w.heap.size vL vB k k XS L ∧ Below w.heap.size w wr) (fun i _ => 4 - (intOf i).toNat)
  case atStart => exact ⟨0, _, _, [], by omega, by omega, rfl, hN0, hb1⟩
  case round =>
    obtain ⟨k, vL, vB, XS, hk, hk4, rfl, hN, hbw⟩ := hrel
    clear hN0 hb1
    by_cases hgo : k < n ∧ k < 4
    · obtain ⟨hg1, hg2⟩ := hgo
      have hg1' : (k : Int) < (n : Int) := by omega
      have hg2' : (k : Int) < 4 := by omega
      obtain ⟨lb, lo, rfl, hlb, hlc⟩ := (h.keep hbw).at_ sg0 (k := k) (by omega)
      obtain ⟨lb', lo', e', hlw, _⟩ := h.at_ sg0 (k := k) (by omega)
      cases e'
      have s0 : wr.cell? ⟨lb, lo + k * 3, none⟩ = some (.int .i64 (atD sg0 L k).ba) := hlc 0 _ rfl
      have s1 : wr.cell? ⟨lb, lo + k * 3 + 1, none⟩ = some (.int .i64 (atD sg0 L k).sz) := hlc 1 _ rfl
      have s2 : wr.cell? ⟨lb, lo + k * 3 + 2, none⟩ = some (.bool (atD sg0 L k).wr) := hlc 2 _ rfl
      clear hlc
      generalize hsg : atD sg0 L k = s at s0 s1 s2
      have HS := Lib.hid hsg
      clear hsg
      obtain ⟨ba, sz, wb⟩ := s
      simp only at s0 s1 s2
      obtain ⟨m, hm⟩ : ∃ m : Nat, m = (max 0 (min sz 256)).toNat := ⟨_, rfl⟩
      have HZ : Hid (z0 ⟨ba, sz, wb⟩ = List.replicate m 0) := by unfold Hid z0; rw [hm]
      have hmk := run_make_row' (P := Try.prog) 39 5 (.int .u8 0) 1 u_by byte_info rfl .i64 .i64 m (by omega) (by omega)
      obtain ⟨cs, hcs⟩ : ∃ cs, cs = madeCells #[.int .u8 0] m := ⟨_, rfl⟩
      rw [← hcs] at hmk
      have HC : Hid (cs = ((z0 ⟨ba, sz, wb⟩).map bv).toArray) := by
        unfold Hid
        rw [hcs, HZ.out]
        rw [made_one, List.map_replicate]
        simp [bv]
      have HL : Hid ((z0 ⟨ba, sz, wb⟩).length = m) := by unfold Hid; rw [HZ.out, List.length_replicate]
      clear hcs HZ
      have g0 : wr.cell? ⟨w.heap.size, 0, none⟩ = some vL := hN.1.cell 0
      have gf : ∀ i, wr.frozen? ⟨w.heap.size, i, none⟩ = false := hN.1.frozen
      have hgl := hN.1.lt
      have hvr : ¬ vL.ownBlock = some w.heap.size := hN.2.2.2.2.1
      have hnl : ¬ vL.ownBlock = some lb := fun e => by have := own_le hN.2.1 _ e; omega
      have hmc : (sz < 0 ∧ m = 0) ∨ (0 ≤ sz ∧ sz ≤ 256 ∧ sz = (m : Int)) ∨ (256 < sz ∧ m = 256) := by omega
      clear hm
      rcases hmc with ⟨h1, rfl⟩ | ⟨h1, h2, rfl⟩ | ⟨h1, rfl⟩
      case' inl => rw [show ((0 : Nat) : Int) = 0 from rfl] at hmk
      case' inr.inr => rw [show ((256 : Nat) : Int) = 256 from rfl] at hmk
      all_goals
        go_upto_region 10 with fail
        refine wp_region_fen (fun j => vL.ownBlock = some j) [(9, 0), (0, 0), (2, 2)] (by kernel_rfl) (by kernel_rfl) ?_
        simp only [wpSegsF, List.take, List.drop]
        repeat (go_big_quiet_step (fail))
        refine wpQuiet_nil (wpHeadF_want rfl (fun K' hK' => ?_))
        go_wp2_with fail
        have kbK := fun cs4 => (show Blk (wr.alloc (.cells cs4 26)).drew wr.heap.size 26 cs4 from Blk.new wr _ _)
        have kbB := fun cs4 => (show Below wr.heap.size wr (wr.alloc (.cells cs4 26)).drew from ((Below.refl _ wr).alloc (Nat.le_refl _) _).drew)
        have kbS := fun cs4 => (show w.heap.size ≤ (wr.alloc (.cells cs4 26)).drew.heap.size from Nat.le_trans (Nat.le_of_lt hgl) (kbB cs4).size)
        refine hK' _ _ rfl (fr_graft (((Fr.refl (fun j => vL.ownBlock = some j) wr).alloc _).drew)) ?_
        clear hK' K'
        try simp only [List.take, List.drop]
        refine wpQuiet_nil (wpHeadF_want rfl (fun K' hK' => ?_))
        refine wp_app_blk _ _ _ 27 (by rfl) w.heap.size 26 i0 _ 3 24 u_rgs hi0 hz0 hz1 hz2 rfl (by decide) (by decide) vL k ((L.take k).flatMap sgC) (by rfl) (own_below hN.2.1 (kbB _)) wr.heap.size _ (by rfl) (by simp [Value.oneCell']) (kbK _) (by rfl) (by omega) (kbS _) ?_
        intro gr cap w5 hown5 hf5 hat5
        have F5 : Fr (fun j => vL.ownBlock = some j) wr w5 := (((Fr.refl (fun j => vL.ownBlock = some j) wr).alloc _).drew).trans hf5
        refine hK' _ _ rfl (fr_graft F5) ?_
        clear hK' K' hf5
        have hat : vL.ownBlock = some gr ∨ wr.heap.size ≤ gr := by
          rcases hat5 with e | e
          · exact .inl e
          · exact .inr (by rw [e]; exact (kbB _).size)
        have bg5 : Blk w5 w.heap.size 49 #[vL, vB] := hN.1.fr F5 hvr
        have gc5 : w5.cell? ⟨w.heap.size, 0, none⟩ = some vL := bg5.cell 0
        have gf5 : ∀ i, w5.frozen? ⟨w.heap.size, i, none⟩ = false := bg5.frozen
        have gl5 := bg5.lt
        have hTk : (L.take (k + 1)).flatMap sgC = (L.take k).flatMap sgC ++ sgC (atD sg0 L k) := by rw [take_snocG sg0 L k (by omega), List.flatMap_append]; simp
        rw [HS.out] at hTk
        have ho5 : w5.ownsRow w.heap.size 26 3 (.slice (some ⟨gr, 0, none⟩) (k + 1) cap) (k + 1) ((L.take (k + 1)).flatMap sgC) := by rw [hTk]; exact hown5
        clear hTk hown5 hat5 kbK kbB kbS g0 gf
        simp only [Act.put, List.setIfInBounds_toArray, List.set_cons_succ, List.set_cons_zero, List.take, List.drop]
        repeat (go_big_quiet_step (fail))
        refine wpQuiet_nil (wpHeadF_bar rfl (fun K' hK' => ?_))
        go_wp2_with fail
        refine hK' _ _ (fun _ => False) rfl ?_
        clear hK' K'
        try simp only [wpSegsF]
        repeat (go_big_quiet_step (fail))
        refine wpQuiet_nil ?_
        have fs6 : Fr (fun j => j = w.heap.size) w5 (w5.setCell ⟨w.heap.size, 0, none⟩ (.slice (some ⟨gr, 0, none⟩) (k + 1) cap)) := Fr.setCell (S := fun j => j = w.heap.size) (Fr.refl _ w5) (p := ⟨w.heap.size, 0, none⟩) (fun _ => rfl) _
        have bg6 : Blk (w5.setCell ⟨w.heap.size, 0, none⟩ (.slice (some ⟨gr, 0, none⟩) (k + 1) cap)) w.heap.size 49 #[.slice (some ⟨gr, 0, none⟩) (k + 1) cap, vB] := bg5.set_ 0 _
        generalize w5.setCell ⟨w.heap.size, 0, none⟩ (.slice (some ⟨gr, 0, none⟩) (k + 1) cap) = w6 at fs6 bg6 ⊢
        have hgr : gr ≠ w.heap.size := fun e => by
          rcases hat with e2 | e2
          · exact hvr (by rw [e2, e])
          · omega
        have ho6 : w6.ownsRow w.heap.size 26 3 (.slice (some ⟨gr, 0, none⟩) (k + 1) cap) (k + 1) ((L.take (k + 1)).flatMap sgC) := own_fr (S := fun j => j = w.heap.size) ho5 fs6 (fun j _ e hj => by cases e; exact hgr hj)
        have F6 : Fr (fun j => j = w.heap.size ∨ vL.ownBlock = some j) wr w6 := (F5.mono (fun j _ hj => .inr hj)).trans (fs6.mono (fun j _ hj => .inl hj))
        have hleL := own_le hN.2.1
        have hN6 := hN.stepL F6 bg6 ho6 (by
          rcases hat with e | e
          · exact .inl e.symm
          · exact .inr ⟨gr, rfl, e⟩)
        have hb6 : Below w.heap.size w w6 := hbw.trans (F6.below (B := w.heap.size) (fun j hj h => by rcases h with h | h; omega; have := hleL j h; omega) (Nat.le_of_lt hgl))
        clear hN F5 fs6 bg5 ho5 bg6 ho6 F6 hleL gc5 gf5 gl5 hvr hnl s0 s1 s2 hbw hgr hat hlb
        have gb6 : w6.cell? ⟨w.heap.size, 1, none⟩ = some vB := hN6.1.cell 1
        have gl6 := hN6.1.lt
        have hvB : ¬ vB.ownBlock = some w.heap.size := hN6.2.2.2.2.2.1
        have hoB := own_lt hN6.2.2.1
        go_wp2_with fail
        refine wp_region_fen (fun j => vB.ownBlock = some j) [(6, 0), (0, 0), (0, 0), (2, 2)] (by kernel_rfl) (by kernel_rfl) ?_
        simp only [wpSegsF, List.take, List.drop]
        repeat (go_big_quiet_step (fail))
        refine wpQuiet_nil (wpHeadF_want rfl (fun K' hK' => ?_))
        go_wp2_with fail
        refine hK' _ _ rfl (fr_graft (((Fr.refl (fun j => vB.ownBlock = some j) w6).alloc _).drew)) ?_
        clear hK' K' hmk
        have bq : Blk (w6.alloc (.cells cs 5)).drew w6.heap.size 5 cs := Blk.new w6 _ _
        have hbq : Below w6.heap.size w6 (w6.alloc (.cells cs 5)).drew := ((Below.refl _ w6).alloc (Nat.le_refl _) _).drew
        have hzq : (w6.alloc (.cells cs 5)).drew.heap.size = w6.heap.size + 1 := alloc_size w6 _
        generalize (w6.alloc (.cells cs 5)).drew = wq at bq hbq hzq ⊢
        try simp only [List.take, List.drop]
        refine wpQuiet_nil (wpHeadF_want rfl (fun K' hK' => ?_))
        go_wp2_with fail
        have kcK := fun cs4 => (show Blk (wq.alloc (.cells cs4 39)) wq.heap.size 39 cs4 from Blk.new wq _ _)
        have kcB := fun cs4 => (show Below wq.heap.size wq (wq.alloc (.cells cs4 39)) from (Below.refl _ wq).alloc (Nat.le_refl _) _)
        have kcS := fun cs4 => (show w.heap.size ≤ (wq.alloc (.cells cs4 39)).heap.size from Nat.le_trans (by omega) (kcB cs4).size)
        have kcZ := fun cs4 => (show (wq.alloc (.cells cs4 39)).heap.size = w6.heap.size + 2 by rw [alloc_size, hzq])
        simp only [hzq] at kcK
        refine hK' _ _ rfl (fr_graft ((Fr.of_below hbq _).alloc _)) ?_
        clear hK' K'
        try simp only [List.take, List.drop]
        refine wpQuiet_nil (wpHeadF_want rfl (fun K' hK' => ?_))
        refine wp_app_blk _ _ _ 47 (by rfl) w.heap.size 39 i1 _ 1 24 u_bss hi1 hy0 hy1 hy2 rfl (by decide) (by decide) vB k (XS.flatMap spC) (by rfl) (own_below hN6.2.2.1 (hbq.trans ((kcB _).mono hbq.size))) (w6.heap.size + 1) _ (by rfl) (by simp [Value.oneCell']) (kcK _) (by rfl) (by omega) (kcS _) ?_
        intro gs cap2 w7 hown7 hf7 hat7
        have F7 : Fr (fun j => vB.ownBlock = some j) w6 w7 := ((Fr.of_below hbq _).alloc _).trans hf7
        have bq7 : Blk w7 w6.heap.size 5 cs := (bq.keep ((kcB _))).fr hf7 (fun e => by have := hoB _ e; omega)
        refine hK' _ _ rfl (fr_graft F7) ?_
        clear hK' K' hf7
        have hat : vB.ownBlock = some gs ∨ gs = w6.heap.size + 2 := by
          rcases hat7 with e | e
          · exact .inl e
          · exact .inr (by rw [e]; exact kcZ _)
        have bg7 : Blk w7 w.heap.size 49 #[.slice (some ⟨gr, 0, none⟩) (k + 1) cap, vB] := hN6.1.fr F7 hvB
        have gc7 : w7.cell? ⟨w.heap.size, 1, none⟩ = some vB := bg7.cell 1
        have gf7 : ∀ i, w7.frozen? ⟨w.heap.size, i, none⟩ = false := bg7.frozen
        have gl7 := bg7.lt
        clear hat7 kcK kcB kcS kcZ gb6 bq
        simp only [Act.put, List.setIfInBounds_toArray, List.set_cons_succ, List.set_cons_zero, List.take, List.drop]
        repeat (go_big_quiet_step (fail))
        refine wpQuiet_nil (wpHeadF_bar rfl (fun K' hK' => ?_))
        go_wp2_with fail
        refine hK' _ _ (fun _ => False) rfl ?_
        clear hK' K'
        try simp only [wpSegsF]
        repeat (go_big_quiet_step (fail))
        refine wpQuiet_nil ?_
        have fs8 : Fr (fun j => j = w.heap.size) w7 (w7.setCell ⟨w.heap.size, 1, none⟩ (.slice (some ⟨gs, 0, none⟩) (k + 1) cap2)) := Fr.setCell (S := fun j => j = w.heap.size) (Fr.refl _ w7) (p := ⟨w.heap.size, 1, none⟩) (fun _ => rfl) _
        have bg8 : Blk (w7.setCell ⟨w.heap.size, 1, none⟩ (.slice (some ⟨gs, 0, none⟩) (k + 1) cap2)) w.heap.size 49 #[.slice (some ⟨gr, 0, none⟩) (k + 1) cap, .slice (some ⟨gs, 0, none⟩) (k + 1) cap2] := bg7.set_ 1 _
        generalize w7.setCell ⟨w.heap.size, 1, none⟩ (.slice (some ⟨gs, 0, none⟩) (k + 1) cap2) = w8 at fs8 bg8 ⊢
        have hgs : gs ≠ w.heap.size := fun e => by
          rcases hat with e2 | e2
          · exact hvB (by rw [e2, e])
          · omega
        have hz7 : w6.heap.size ≤ w7.heap.size := F7.size
        have F8 : Fr (fun j => j = w.heap.size ∨ vB.ownBlock = some j) w6 w8 := (F7.mono (fun j _ hj => .inr hj)).trans (fs8.mono (fun j _ hj => .inl hj))
        have bq8 : Blk w8 w6.heap.size 5 ((z0 (atD sg0 L k)).map bv).toArray := by
          rw [HS.out, ← HC.out]
          exact bq7.fr fs8 (fun e => by have e : w6.heap.size = w.heap.size := e; omega)
        have hsl8 := SlB.of_whole bq8 (Nat.le_trans (z0_le _) (by decide))
        have hzlen : (z0 (atD sg0 L k)).length = _ := (congrArg (fun s => (z0 s).length) HS.out).trans HL.out
        rw [hzlen] at hsl8
        have hleB := own_le hN6.2.2.1
        have hN8 := hN6.stepB F8 bg8 (q := w6.heap.size) (by
          rw [List.flatMap_append]
          exact own_fr (S := fun j => j = w.heap.size) hown7 fs8 (fun j _ e hj => by cases e; exact hgs hj)) (Nat.le_refl _) hsl8 (by
          rcases hat with e | e
          · exact .inl e.symm
          · exact .inr ⟨gs, rfl, by omega, by omega⟩)
        have hb8 : Below w.heap.size w w8 := hb6.trans (F8.below (B := w.heap.size) (fun j hj h => by rcases h with h | h; omega; have := hleB j h; omega) (Nat.le_of_lt gl6))
        clear hown7 F7 fs8 bg7 bg8 F8 hleB hN6 hat bq7 bq8 hsl8 hzlen HS HC HL gc7 gf7 gl7 hb6
        go_wp2_with fail
        exact ⟨⟨k + 1, _, _, _, by omega, by omega, by go_num, hN8, hb8⟩, by simp [intOf]; omega⟩
    · have hGl : L.take k = L.take 4 := by
        by_cases h4 : k < 4
        · obtain rfl : k = n := by omega
          rw [List.take_of_length_le (by omega), List.take_of_length_le (by omega)]
        · rw [show k = 4 by omega]
      have hx := hN.done (G := L.take 4) hGl (by rw [← hGl, List.length_take]; omega) hk4 hokG
      clear hN
      by_cases h4 : k < n
      · obtain rfl : k = 4 := by omega
        have h4' : ((4 : Nat) : Int) < (n : Int) := by omega
        clear hgo hk hk4 h4
        go_wp2_with fail
        go_ret
        exact ⟨rfl, by rw [← List.map_take]; exact hx, hbw⟩
      · have h4' : ¬ (k : Int) < (n : Int) := by omega
        clear hgo
        go_wp2_with fail
        go_ret
        exact ⟨rfl, by rw [← List.map_take]; exact hx, hbw⟩
end Go.Proofs.Ytpgglefimdllbaa
