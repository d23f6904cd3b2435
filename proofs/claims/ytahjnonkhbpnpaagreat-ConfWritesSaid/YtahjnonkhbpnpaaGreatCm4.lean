/- Words and walks for the claims of this seat, merged: CwList2, CfgShort, CwPart. -/
import Derived.Deep.DeepCutAuto
import Derived.Outline
import Derived.Test.YtahjnonkhbpnpaaGreatCm1
import Derived.Test.YtahjnonkhbpnpaaGreatCm2
import Derived.Test.YtahjnonkhbpnpaaGreatCm3
/- conf's lists, written: ChanConf, PartConf, Mode, int. Printed by wip/gen_cwlist.py. -/
namespace Go.Proofs.YtahjnonkhbpnpaaGreat
open Go.RowKit
set_option maxRecDepth 100000 in
theorem list1_Ch {wa : World} {g p po : Nat} {Q : (Nat → Prop) → World → Prop} {enc : List UInt8} {bad : Bool} (x : Ch) {N : Nat} (hone : OneW wa g Q 18 #[.agg #[.int .i64 x.fr.part, .int .i64 x.fr.port, .int .i64 x.to.part, .int .i64 x.to.port], .pointer (some ⟨p, 0, none⟩)] N enc bad) {T : Nat → Prop} {W : World} {l : List UInt8} {lg : Bool}
    (hQ : Stq Q) (hq : Q T W) (hw : WrC W wa.heap.size g T l lg) (hB : Below wa.heap.size wa W) (hl : l.length ≤ N) (ho : Blk W po 74 #[.func (.func 18) #[] #[.pointer (some ⟨p, 0, none⟩)]]) :
    Calls Tryz.prog 70 #[.pointer (some ⟨g, 0, none⟩), .agg #[.int .i64 x.fr.part, .int .i64 x.fr.port, .int .i64 x.to.part, .int .i64 x.to.port], .pointer (some ⟨po, 0, none⟩)] W (Wro W wa.heap.size g T (l ++ enc) (lg || bad)) := by
  have hb1 := (Below.refl W.heap.size W).alloc (Nat.le_refl _) (.cells #[.int .i64 x.fr.part, .int .i64 x.fr.port, .int .i64 x.to.part, .int .i64 x.to.port] 72)
  have k1 := Blk.new W 72 #[.int .i64 x.fr.part, .int .i64 x.fr.port, .int .i64 x.to.part, .int .i64 x.to.port]
  have hw1 := hw.keep hb1
  have ho1 := ho.keep hb1
  have hq1 := hQ T T _ _ hq (Fr.of_below hb1 T) (fun b hb => ⟨.inl hb, Nat.lt_of_lt_of_le (hw.bnd b hb) hb1.size⟩)
  have hB1 := hB.trans (hb1.mono hB.size)
  go_enter Tryz.func70, Tryz.ntmps70
  go_upto_region 1 with fail
  generalize W.alloc (.cells #[.int .i64 x.fr.part, .int .i64 x.fr.port, .int .i64 x.to.part, .int .i64 x.to.port] 72) = W1 at hb1 k1 hw1 ho1 hq1 hB1 ⊢
  have c0 : W1.cell? ⟨W.heap.size, 0, none⟩ = some (.int .i64 x.fr.part) := k1.cell 0
  have c1 : W1.cell? ⟨W.heap.size, 1, none⟩ = some (.int .i64 x.fr.port) := k1.cell 1
  have c2 : W1.cell? ⟨W.heap.size, 2, none⟩ = some (.int .i64 x.to.part) := k1.cell 2
  have c3 : W1.cell? ⟨W.heap.size, 3, none⟩ = some (.int .i64 x.to.port) := k1.cell 3
  have hl1 := k1.lt
  have hlo := ho1.lt
  have o0 : W1.cell? ⟨po, 0, none⟩ = some (.func (.func 18) #[] #[.pointer (some ⟨p, 0, none⟩)]) := ho1.cell 0
  go_wp2_with fail
  refine (hone T W1 l lg hq1 hw1 hB1 hl).mono ?_
  rintro e W2 ⟨rfl, h2⟩
  go_wp2_with fail
  go_end0
  exact Wro.below ⟨rfl, h2⟩ hb1
theorem any_snocCh {bad : Ch → Bool} {l : List Ch} {k : Nat} (h : k < l.length) (lg : Bool) : (lg || (l.take k).any bad || bad (atD Ch0 l k)) = (lg || (l.take (k + 1)).any bad) := by
  rw [take_snocG Ch0 l k h]
  simp [Bool.or_assoc]
set_option maxRecDepth 100000 in
theorem put_Ch {wa : World} {g p po : Nat} {Q : (Nat → Prop) → World → Prop} {enc : Ch → List UInt8} {bad : Ch → Bool} {h : Hd Ch} {N M : Nat} (hh : rdChs.ok wa h) (hn : h.l.length ≤ 100) (hone : ∀ x ∈ h.l, OneW wa g Q 18 #[.agg #[.int .i64 x.fr.part, .int .i64 x.fr.port, .int .i64 x.to.part, .int .i64 x.to.port], .pointer (some ⟨p, 0, none⟩)] N (enc x) (bad x))
    (hM : ∀ x ∈ h.l, (enc x).length ≤ M) (hN : N ≤ 60000000) {T : Nat → Prop} {W : World} {l : List UInt8} {lg : Bool}
    (hQ : Stq Q) (hq : Q T W) (hw : WrC W wa.heap.size g T l lg) (hB : Below wa.heap.size wa W) (hl : l.length + 11 + 100 * M ≤ N) (ho : Blk W po 74 #[.func (.func 18) #[] #[.pointer (some ⟨p, 0, none⟩)]]) (hpo : ¬ T po) :
    Calls Tryz.prog 69 #[.pointer (some ⟨g, 0, none⟩), .slice h.A h.l.length h.c, .func (.func 70) #[] #[.pointer (some ⟨po, 0, none⟩)]] W (Wro W wa.heap.size g T (l ++ (vint h.l.length ++ h.l.flatMap enc)) (lg || h.l.any bad)) := by
  have hgl := hw.lt
  have hBs := hB.size
  obtain ⟨A, c, hl0⟩ := h
  simp only at hh hn hone hM ⊢
  have hvl := vint_len (hl0.length : Int)
  go_enter Tryz.func69, Tryz.ntmps69
  go_wp2_with fail
  refine (writeIntC_any hw hBs (by omega) (n := (hl0.length : Int)) (by unfold i64; omega)).mono ?_
  rintro e w2 ⟨rfl, T2, h2, hf2, hg2⟩
  go_wp2_with fail
  go_loopw [16] (fun i wr => ∃ (k : Nat) (T' : Nat → Prop), k ≤ hl0.length ∧ i = .int .i64 (k : Int) ∧ WrC wr wa.heap.size g T' ((l ++ vint hl0.length) ++ (hl0.take k).flatMap enc) (lg || (hl0.take k).any bad) ∧ Fr T W wr ∧ Grw T T' W wr) (fun i _ => hl0.length - (intOf i).toNat)
  case atStart => exact ⟨0, T2, Nat.zero_le _, rfl, by simpa using h2, hf2, hg2⟩
  case round =>
    obtain ⟨k, T', hk, rfl, hwr, hfr, hgr⟩ := hrel
    have hqr := hQ _ _ _ _ hq hfr hgr
    have hBr := hB.trans (hfr.below (fun b hb h => by have := hw.lo b h; omega) hBs)
    have hor := ho.fr hfr hpo
    by_cases hlt : k < hl0.length
    · have hT1 := Lib.hid (any_snocCh (bad := bad) hlt lg)
      have hT2 : Hid ((hl0.take (k + 1)).flatMap enc = (hl0.take k).flatMap enc ++ enc (atD Ch0 hl0 k)) := by
        unfold Hid
        rw [take_snocG Ch0 hl0 k hlt, List.flatMap_append]
        simp
      have hfl : ((hl0.take k).flatMap enc).length ≤ k * M := flat_le enc _ (fun x hx => hM x (List.mem_of_mem_take hx)) k (by rw [List.length_take]; omega)
      have hkM : k * M ≤ 100 * M := Nat.mul_le_mul_right M (by omega)
      have honek := hone _ (atD_mem (d := Ch0) hlt)
      obtain ⟨eb, eo, rfl, heb, hec⟩ := (rdChs.keep hh hBr).1.at_ Ch0 hlt
      have x0 : wr.cell? ⟨eb, eo + k * 4, none⟩ = some (.int .i64 (atD Ch0 hl0 k).fr.part) := hec 0 _ rfl
      have x1 : wr.cell? ⟨eb, eo + k * 4 + 1, none⟩ = some (.int .i64 (atD Ch0 hl0 k).fr.port) := hec 1 _ rfl
      have x2 : wr.cell? ⟨eb, eo + k * 4 + 2, none⟩ = some (.int .i64 (atD Ch0 hl0 k).to.part) := hec 2 _ rfl
      have x3 : wr.cell? ⟨eb, eo + k * 4 + 3, none⟩ = some (.int .i64 (atD Ch0 hl0 k).to.port) := hec 3 _ rfl
      clear hec
      generalize atD Ch0 hl0 k = x at x0 x1 x2 x3 hT1 hT2 honek
      have hb3 := (Below.refl wr.heap.size wr).alloc (Nat.le_refl _) (.cells #[.int .i64 x.fr.part, .int .i64 x.fr.port, .int .i64 x.to.part, .int .i64 x.to.port] 72)
      have k3 := Blk.new wr 72 #[.int .i64 x.fr.part, .int .i64 x.fr.port, .int .i64 x.to.part, .int .i64 x.to.port]
      go_upto_region 5 with fail
      generalize wr.alloc (.cells #[.int .i64 x.fr.part, .int .i64 x.fr.port, .int .i64 x.to.part, .int .i64 x.to.port] 72) = w3 at hb3 k3 ⊢
      have hw3 := hwr.keep hb3
      have ho3 := hor.keep hb3
      have hq3 := hQ T' T' _ _ hqr (Fr.of_below hb3 T') (fun b hb => ⟨.inl hb, Nat.lt_of_lt_of_le (hwr.bnd b hb) hb3.size⟩)
      have hB3 := hBr.trans (hb3.mono hBr.size)
      have y0 : w3.cell? ⟨wr.heap.size, 0, none⟩ = some (.int .i64 x.fr.part) := k3.cell 0
      have y1 : w3.cell? ⟨wr.heap.size, 1, none⟩ = some (.int .i64 x.fr.port) := k3.cell 1
      have y2 : w3.cell? ⟨wr.heap.size, 2, none⟩ = some (.int .i64 x.to.part) := k3.cell 2
      have y3 : w3.cell? ⟨wr.heap.size, 3, none⟩ = some (.int .i64 x.to.port) := k3.cell 3
      have hl3 := k3.lt
      clear x0 x1 x2 x3
      go_wp2_with fail
      refine (list1_Ch (po := po) x honek hQ hq3 hw3 hB3 (by simp only [List.length_append]; omega) ho3).mono ?_
      rintro e w4 ⟨rfl, T4, h4, hf4, hg4⟩
      go_wp2_with fail
      refine ⟨⟨k + 1, T4, by omega, by go_num, ?_, hfr.grw hgr ((Fr.of_below hb3 T').trans hf4), hgr.trans hfr.size (hg4.alloc_left hb3.size)⟩, by simp [intOf]; omega⟩
      rw [hT2.out, ← hT1.out, ← List.append_assoc]
      exact h4
    · obtain rfl : k = hl0.length := by omega
      have HT : Hid (hl0.take hl0.length = hl0) := List.take_length
      rw [HT.out, List.append_assoc] at hwr
      go_wp2_with fail
      go_end0
      exact ⟨rfl, T', hwr, hfr, hgr⟩
set_option maxRecDepth 100000 in
theorem list_Ch {wa : World} {g p : Nat} {Q : (Nat → Prop) → World → Prop} {enc : Ch → List UInt8} {bad : Ch → Bool} {h : Hd Ch} {N M : Nat} (hh : rdChs.ok wa h) (hn : h.l.length ≤ 100) (hone : ∀ x ∈ h.l, OneW wa g Q 18 #[.agg #[.int .i64 x.fr.part, .int .i64 x.fr.port, .int .i64 x.to.part, .int .i64 x.to.port], .pointer (some ⟨p, 0, none⟩)] N (enc x) (bad x))
    (hM : ∀ x ∈ h.l, (enc x).length ≤ M) (hN : N ≤ 60000000) {T : Nat → Prop} {W : World} {l : List UInt8} {lg : Bool}
    (hQ : Stq Q) (hq : Q T W) (hw : WrC W wa.heap.size g T l lg) (hB : Below wa.heap.size wa W) (hl : l.length + 11 + 100 * M ≤ N) :
    Calls Tryz.prog 17 #[.pointer (some ⟨g, 0, none⟩), .slice h.A h.l.length h.c, .func (.func 18) #[] #[.pointer (some ⟨p, 0, none⟩)]] W (Wro W wa.heap.size g T (l ++ (vint h.l.length ++ h.l.flatMap enc)) (lg || (decide (64 < h.l.length) || h.l.any bad))) := by
  have hb1 := (Below.refl W.heap.size W).alloc (Nat.le_refl _) (.cells #[.func (.func 18) #[] #[.pointer (some ⟨p, 0, none⟩)]] 74)
  have k1 := Blk.new W 74 #[.func (.func 18) #[] #[.pointer (some ⟨p, 0, none⟩)]]
  have hw1 := hw.keep hb1
  have hT1 : ¬ T W.heap.size := fun h => by have := hw.bnd _ h; omega
  have hq1 := hQ T T _ _ hq (Fr.of_below hb1 T) (fun b hb => ⟨.inl hb, Nat.lt_of_lt_of_le (hw.bnd b hb) hb1.size⟩)
  have hgl := hw1.lt
  go_enter Tryz.func17, Tryz.ntmps17
  go_upto_region 1 with fail
  generalize W.alloc (.cells #[.func (.func 18) #[] #[.pointer (some ⟨p, 0, none⟩)]] 74) = W1 at hb1 k1 hw1 hq1 hgl ⊢
  have hB1 := hB.trans (hb1.mono hB.size)
  have hwg := hw1
  obtain ⟨⟨v, kb, hrow, hv⟩, h6, h7, h8⟩ := hwg
  have c1 : W1.cell? ⟨g, 1, none⟩ = some (.bool lg) := kb.cell 1
  have f1 : W1.frozen? ⟨g, 1, none⟩ = false := kb.frozen 1
  have hpg : W.heap.size ≠ g := fun h => by rw [h] at hT1; exact hT1 hw.tg
  have fin : ∀ lg2 : Bool, (lg || decide (64 < h.l.length)) = lg2 → Hid (Calls Tryz.prog 69 #[.pointer (some ⟨g, 0, none⟩), .slice h.A h.l.length h.c, .func (.func 70) #[] #[.pointer (some ⟨W.heap.size, 0, none⟩)]] (W1.setCell ⟨g, 1, none⟩ (.bool lg2)) (Wro W wa.heap.size g T (l ++ (vint h.l.length ++ h.l.flatMap enc)) (lg || (decide (64 < h.l.length) || h.l.any bad)))) := fun lg2 h2 => by
    have hwn := hw1.setLong lg2
    have hfn : Fr T W1 (W1.setCell ⟨g, 1, none⟩ (.bool lg2)) := (Fr.refl T W1).setCell (p := ⟨g, 1, none⟩) (fun _ => hw.tg) _
    have hgn : Grw T T W1 (W1.setCell ⟨g, 1, none⟩ (.bool lg2)) := fun b hb => ⟨.inl hb, hwn.bnd b hb⟩
    have hBn := hB1.trans (hfn.below (fun b hb h => by have := hw.lo b h; omega) hB1.size)
    refine (put_Ch (po := W.heap.size) hh hn hone hM hN hQ (hQ _ _ _ _ hq1 hfn hgn) hwn hBn hl (k1.fr hfn hT1) hT1).mono ?_
    rintro e W9 ⟨rfl, T9, h9, hf9, hg9⟩
    refine ⟨rfl, T9, ?_, (Fr.of_below hb1 T).trans (hfn.trans hf9), (hg9.alloc_left (W0 := W1) hfn.size).alloc_left hb1.size⟩
    rw [← Bool.or_assoc, h2]
    exact h9
  cases hlg : lg with
  | true =>
    have FN := fin true (by rw [hlg]; rfl)
    rw [hlg] at c1
    clear fin hlg
    go_wp2_with fail
    refine FN.out.mono ?_
    rintro e W9 ⟨rfl, h9⟩
    go_wp2_with fail
    go_end0
    exact ⟨rfl, h9⟩
  | false =>
    rw [hlg] at c1
    have FN := fin (decide (64 < (h.l.length : Int))) (by rw [hlg, Bool.false_or]; exact decide_eq_decide.2 (by omega))
    clear fin hlg
    go_wp2_with fail
    refine FN.out.mono ?_
    rintro e W9 ⟨rfl, h9⟩
    go_wp2_with fail
    go_end0
    exact ⟨rfl, h9⟩
set_option maxRecDepth 100000 in
theorem list1_Pt {wa : World} {g po : Nat} {Q : (Nat → Prop) → World → Prop} {enc : List UInt8} {bad : Bool} (x : Pt) {N : Nat} (hone : OneW wa g Q 16 #[.pointer (some ⟨g, 0, none⟩), .agg #[.slice x.regs.A x.regs.l.length x.regs.c, .slice x.procs.A x.procs.l.length x.procs.c, .slice x.ports.A x.ports.l.length x.ports.c, .slice x.sems.A x.sems.l.length x.sems.c, .int .i64 x.flags, .slice x.pools.A x.pools.l.length x.pools.c, .slice x.slates.A x.slates.l.length x.slates.c, .int .i64 x.cap, .int .i64 x.bud, .int .i64 x.lad, .slice x.acts.A x.acts.l.length x.acts.c]] N enc bad) {T : Nat → Prop} {W : World} {l : List UInt8} {lg : Bool}
    (hQ : Stq Q) (hq : Q T W) (hw : WrC W wa.heap.size g T l lg) (hB : Below wa.heap.size wa W) (hl : l.length ≤ N) (ho : Blk W po 67 #[.func (.func 16) #[.pointer (some ⟨g, 0, none⟩)] #[]]) :
    Calls Tryz.prog 56 #[.pointer (some ⟨g, 0, none⟩), .agg #[.slice x.regs.A x.regs.l.length x.regs.c, .slice x.procs.A x.procs.l.length x.procs.c, .slice x.ports.A x.ports.l.length x.ports.c, .slice x.sems.A x.sems.l.length x.sems.c, .int .i64 x.flags, .slice x.pools.A x.pools.l.length x.pools.c, .slice x.slates.A x.slates.l.length x.slates.c, .int .i64 x.cap, .int .i64 x.bud, .int .i64 x.lad, .slice x.acts.A x.acts.l.length x.acts.c], .pointer (some ⟨po, 0, none⟩)] W (Wro W wa.heap.size g T (l ++ enc) (lg || bad)) := by
  have hb1 := (Below.refl W.heap.size W).alloc (Nat.le_refl _) (.cells #[.slice x.regs.A x.regs.l.length x.regs.c, .slice x.procs.A x.procs.l.length x.procs.c, .slice x.ports.A x.ports.l.length x.ports.c, .slice x.sems.A x.sems.l.length x.sems.c, .int .i64 x.flags, .slice x.pools.A x.pools.l.length x.pools.c, .slice x.slates.A x.slates.l.length x.slates.c, .int .i64 x.cap, .int .i64 x.bud, .int .i64 x.lad, .slice x.acts.A x.acts.l.length x.acts.c] 55)
  have k1 := Blk.new W 55 #[.slice x.regs.A x.regs.l.length x.regs.c, .slice x.procs.A x.procs.l.length x.procs.c, .slice x.ports.A x.ports.l.length x.ports.c, .slice x.sems.A x.sems.l.length x.sems.c, .int .i64 x.flags, .slice x.pools.A x.pools.l.length x.pools.c, .slice x.slates.A x.slates.l.length x.slates.c, .int .i64 x.cap, .int .i64 x.bud, .int .i64 x.lad, .slice x.acts.A x.acts.l.length x.acts.c]
  have hw1 := hw.keep hb1
  have ho1 := ho.keep hb1
  have hq1 := hQ T T _ _ hq (Fr.of_below hb1 T) (fun b hb => ⟨.inl hb, Nat.lt_of_lt_of_le (hw.bnd b hb) hb1.size⟩)
  have hB1 := hB.trans (hb1.mono hB.size)
  go_enter Tryz.func56, Tryz.ntmps56
  go_upto_region 1 with fail
  generalize W.alloc (.cells #[.slice x.regs.A x.regs.l.length x.regs.c, .slice x.procs.A x.procs.l.length x.procs.c, .slice x.ports.A x.ports.l.length x.ports.c, .slice x.sems.A x.sems.l.length x.sems.c, .int .i64 x.flags, .slice x.pools.A x.pools.l.length x.pools.c, .slice x.slates.A x.slates.l.length x.slates.c, .int .i64 x.cap, .int .i64 x.bud, .int .i64 x.lad, .slice x.acts.A x.acts.l.length x.acts.c] 55) = W1 at hb1 k1 hw1 ho1 hq1 hB1 ⊢
  have c0 : W1.cell? ⟨W.heap.size, 0, none⟩ = some (.slice x.regs.A x.regs.l.length x.regs.c) := k1.cell 0
  have c1 : W1.cell? ⟨W.heap.size, 1, none⟩ = some (.slice x.procs.A x.procs.l.length x.procs.c) := k1.cell 1
  have c2 : W1.cell? ⟨W.heap.size, 2, none⟩ = some (.slice x.ports.A x.ports.l.length x.ports.c) := k1.cell 2
  have c3 : W1.cell? ⟨W.heap.size, 3, none⟩ = some (.slice x.sems.A x.sems.l.length x.sems.c) := k1.cell 3
  have c4 : W1.cell? ⟨W.heap.size, 4, none⟩ = some (.int .i64 x.flags) := k1.cell 4
  have c5 : W1.cell? ⟨W.heap.size, 5, none⟩ = some (.slice x.pools.A x.pools.l.length x.pools.c) := k1.cell 5
  have c6 : W1.cell? ⟨W.heap.size, 6, none⟩ = some (.slice x.slates.A x.slates.l.length x.slates.c) := k1.cell 6
  have c7 : W1.cell? ⟨W.heap.size, 7, none⟩ = some (.int .i64 x.cap) := k1.cell 7
  have c8 : W1.cell? ⟨W.heap.size, 8, none⟩ = some (.int .i64 x.bud) := k1.cell 8
  have c9 : W1.cell? ⟨W.heap.size, 9, none⟩ = some (.int .i64 x.lad) := k1.cell 9
  have c10 : W1.cell? ⟨W.heap.size, 10, none⟩ = some (.slice x.acts.A x.acts.l.length x.acts.c) := k1.cell 10
  have hl1 := k1.lt
  have hlo := ho1.lt
  have o0 : W1.cell? ⟨po, 0, none⟩ = some (.func (.func 16) #[.pointer (some ⟨g, 0, none⟩)] #[]) := ho1.cell 0
  go_wp2_with fail
  refine (hone T W1 l lg hq1 hw1 hB1 hl).mono ?_
  rintro e W2 ⟨rfl, h2⟩
  go_wp2_with fail
  go_end0
  exact Wro.below ⟨rfl, h2⟩ hb1
theorem any_snocPt {bad : Pt → Bool} {l : List Pt} {k : Nat} (h : k < l.length) (lg : Bool) : (lg || (l.take k).any bad || bad (atD Pt0 l k)) = (lg || (l.take (k + 1)).any bad) := by
  rw [take_snocG Pt0 l k h]
  simp [Bool.or_assoc]
set_option maxRecDepth 100000 in
theorem put_Pt {wa : World} {g po : Nat} {Q : (Nat → Prop) → World → Prop} {enc : Pt → List UInt8} {bad : Pt → Bool} {h : Hd Pt} {N M : Nat} (hh : rdPts.ok wa h) (hn : h.l.length ≤ 100) (hone : ∀ x ∈ h.l, OneW wa g Q 16 #[.pointer (some ⟨g, 0, none⟩), .agg #[.slice x.regs.A x.regs.l.length x.regs.c, .slice x.procs.A x.procs.l.length x.procs.c, .slice x.ports.A x.ports.l.length x.ports.c, .slice x.sems.A x.sems.l.length x.sems.c, .int .i64 x.flags, .slice x.pools.A x.pools.l.length x.pools.c, .slice x.slates.A x.slates.l.length x.slates.c, .int .i64 x.cap, .int .i64 x.bud, .int .i64 x.lad, .slice x.acts.A x.acts.l.length x.acts.c]] N (enc x) (bad x))
    (hM : ∀ x ∈ h.l, (enc x).length ≤ M) (hN : N ≤ 60000000) {T : Nat → Prop} {W : World} {l : List UInt8} {lg : Bool}
    (hQ : Stq Q) (hq : Q T W) (hw : WrC W wa.heap.size g T l lg) (hB : Below wa.heap.size wa W) (hl : l.length + 11 + 100 * M ≤ N) (ho : Blk W po 67 #[.func (.func 16) #[.pointer (some ⟨g, 0, none⟩)] #[]]) (hpo : ¬ T po) :
    Calls Tryz.prog 55 #[.pointer (some ⟨g, 0, none⟩), .slice h.A h.l.length h.c, .func (.func 56) #[] #[.pointer (some ⟨po, 0, none⟩)]] W (Wro W wa.heap.size g T (l ++ (vint h.l.length ++ h.l.flatMap enc)) (lg || h.l.any bad)) := by
  have hgl := hw.lt
  have hBs := hB.size
  obtain ⟨A, c, hl0⟩ := h
  simp only at hh hn hone hM ⊢
  have hvl := vint_len (hl0.length : Int)
  go_enter Tryz.func55, Tryz.ntmps55
  go_wp2_with fail
  refine (writeIntC_any hw hBs (by omega) (n := (hl0.length : Int)) (by unfold i64; omega)).mono ?_
  rintro e w2 ⟨rfl, T2, h2, hf2, hg2⟩
  go_wp2_with fail
  go_loopw [16] (fun i wr => ∃ (k : Nat) (T' : Nat → Prop), k ≤ hl0.length ∧ i = .int .i64 (k : Int) ∧ WrC wr wa.heap.size g T' ((l ++ vint hl0.length) ++ (hl0.take k).flatMap enc) (lg || (hl0.take k).any bad) ∧ Fr T W wr ∧ Grw T T' W wr) (fun i _ => hl0.length - (intOf i).toNat)
  case atStart => exact ⟨0, T2, Nat.zero_le _, rfl, by simpa using h2, hf2, hg2⟩
  case round =>
    obtain ⟨k, T', hk, rfl, hwr, hfr, hgr⟩ := hrel
    have hqr := hQ _ _ _ _ hq hfr hgr
    have hBr := hB.trans (hfr.below (fun b hb h => by have := hw.lo b h; omega) hBs)
    have hor := ho.fr hfr hpo
    by_cases hlt : k < hl0.length
    · have hT1 := Lib.hid (any_snocPt (bad := bad) hlt lg)
      have hT2 : Hid ((hl0.take (k + 1)).flatMap enc = (hl0.take k).flatMap enc ++ enc (atD Pt0 hl0 k)) := by
        unfold Hid
        rw [take_snocG Pt0 hl0 k hlt, List.flatMap_append]
        simp
      have hfl : ((hl0.take k).flatMap enc).length ≤ k * M := flat_le enc _ (fun x hx => hM x (List.mem_of_mem_take hx)) k (by rw [List.length_take]; omega)
      have hkM : k * M ≤ 100 * M := Nat.mul_le_mul_right M (by omega)
      have honek := hone _ (atD_mem (d := Pt0) hlt)
      obtain ⟨eb, eo, rfl, heb, hec⟩ := (rdPts.keep hh hBr).1.at_ Pt0 hlt
      have x0 : wr.cell? ⟨eb, eo + k * 11, none⟩ = some (.slice (atD Pt0 hl0 k).regs.A (atD Pt0 hl0 k).regs.l.length (atD Pt0 hl0 k).regs.c) := hec 0 _ rfl
      have x1 : wr.cell? ⟨eb, eo + k * 11 + 1, none⟩ = some (.slice (atD Pt0 hl0 k).procs.A (atD Pt0 hl0 k).procs.l.length (atD Pt0 hl0 k).procs.c) := hec 1 _ rfl
      have x2 : wr.cell? ⟨eb, eo + k * 11 + 2, none⟩ = some (.slice (atD Pt0 hl0 k).ports.A (atD Pt0 hl0 k).ports.l.length (atD Pt0 hl0 k).ports.c) := hec 2 _ rfl
      have x3 : wr.cell? ⟨eb, eo + k * 11 + 3, none⟩ = some (.slice (atD Pt0 hl0 k).sems.A (atD Pt0 hl0 k).sems.l.length (atD Pt0 hl0 k).sems.c) := hec 3 _ rfl
      have x4 : wr.cell? ⟨eb, eo + k * 11 + 4, none⟩ = some (.int .i64 (atD Pt0 hl0 k).flags) := hec 4 _ rfl
      have x5 : wr.cell? ⟨eb, eo + k * 11 + 5, none⟩ = some (.slice (atD Pt0 hl0 k).pools.A (atD Pt0 hl0 k).pools.l.length (atD Pt0 hl0 k).pools.c) := hec 5 _ rfl
      have x6 : wr.cell? ⟨eb, eo + k * 11 + 6, none⟩ = some (.slice (atD Pt0 hl0 k).slates.A (atD Pt0 hl0 k).slates.l.length (atD Pt0 hl0 k).slates.c) := hec 6 _ rfl
      have x7 : wr.cell? ⟨eb, eo + k * 11 + 7, none⟩ = some (.int .i64 (atD Pt0 hl0 k).cap) := hec 7 _ rfl
      have x8 : wr.cell? ⟨eb, eo + k * 11 + 8, none⟩ = some (.int .i64 (atD Pt0 hl0 k).bud) := hec 8 _ rfl
      have x9 : wr.cell? ⟨eb, eo + k * 11 + 9, none⟩ = some (.int .i64 (atD Pt0 hl0 k).lad) := hec 9 _ rfl
      have x10 : wr.cell? ⟨eb, eo + k * 11 + 10, none⟩ = some (.slice (atD Pt0 hl0 k).acts.A (atD Pt0 hl0 k).acts.l.length (atD Pt0 hl0 k).acts.c) := hec 10 _ rfl
      clear hec
      generalize atD Pt0 hl0 k = x at x0 x1 x2 x3 x4 x5 x6 x7 x8 x9 x10 hT1 hT2 honek
      have hb3 := (Below.refl wr.heap.size wr).alloc (Nat.le_refl _) (.cells #[.slice x.regs.A x.regs.l.length x.regs.c, .slice x.procs.A x.procs.l.length x.procs.c, .slice x.ports.A x.ports.l.length x.ports.c, .slice x.sems.A x.sems.l.length x.sems.c, .int .i64 x.flags, .slice x.pools.A x.pools.l.length x.pools.c, .slice x.slates.A x.slates.l.length x.slates.c, .int .i64 x.cap, .int .i64 x.bud, .int .i64 x.lad, .slice x.acts.A x.acts.l.length x.acts.c] 55)
      have k3 := Blk.new wr 55 #[.slice x.regs.A x.regs.l.length x.regs.c, .slice x.procs.A x.procs.l.length x.procs.c, .slice x.ports.A x.ports.l.length x.ports.c, .slice x.sems.A x.sems.l.length x.sems.c, .int .i64 x.flags, .slice x.pools.A x.pools.l.length x.pools.c, .slice x.slates.A x.slates.l.length x.slates.c, .int .i64 x.cap, .int .i64 x.bud, .int .i64 x.lad, .slice x.acts.A x.acts.l.length x.acts.c]
      go_upto_region 5 with fail
      generalize wr.alloc (.cells #[.slice x.regs.A x.regs.l.length x.regs.c, .slice x.procs.A x.procs.l.length x.procs.c, .slice x.ports.A x.ports.l.length x.ports.c, .slice x.sems.A x.sems.l.length x.sems.c, .int .i64 x.flags, .slice x.pools.A x.pools.l.length x.pools.c, .slice x.slates.A x.slates.l.length x.slates.c, .int .i64 x.cap, .int .i64 x.bud, .int .i64 x.lad, .slice x.acts.A x.acts.l.length x.acts.c] 55) = w3 at hb3 k3 ⊢
      have hw3 := hwr.keep hb3
      have ho3 := hor.keep hb3
      have hq3 := hQ T' T' _ _ hqr (Fr.of_below hb3 T') (fun b hb => ⟨.inl hb, Nat.lt_of_lt_of_le (hwr.bnd b hb) hb3.size⟩)
      have hB3 := hBr.trans (hb3.mono hBr.size)
      have y0 : w3.cell? ⟨wr.heap.size, 0, none⟩ = some (.slice x.regs.A x.regs.l.length x.regs.c) := k3.cell 0
      have y1 : w3.cell? ⟨wr.heap.size, 1, none⟩ = some (.slice x.procs.A x.procs.l.length x.procs.c) := k3.cell 1
      have y2 : w3.cell? ⟨wr.heap.size, 2, none⟩ = some (.slice x.ports.A x.ports.l.length x.ports.c) := k3.cell 2
      have y3 : w3.cell? ⟨wr.heap.size, 3, none⟩ = some (.slice x.sems.A x.sems.l.length x.sems.c) := k3.cell 3
      have y4 : w3.cell? ⟨wr.heap.size, 4, none⟩ = some (.int .i64 x.flags) := k3.cell 4
      have y5 : w3.cell? ⟨wr.heap.size, 5, none⟩ = some (.slice x.pools.A x.pools.l.length x.pools.c) := k3.cell 5
      have y6 : w3.cell? ⟨wr.heap.size, 6, none⟩ = some (.slice x.slates.A x.slates.l.length x.slates.c) := k3.cell 6
      have y7 : w3.cell? ⟨wr.heap.size, 7, none⟩ = some (.int .i64 x.cap) := k3.cell 7
      have y8 : w3.cell? ⟨wr.heap.size, 8, none⟩ = some (.int .i64 x.bud) := k3.cell 8
      have y9 : w3.cell? ⟨wr.heap.size, 9, none⟩ = some (.int .i64 x.lad) := k3.cell 9
      have y10 : w3.cell? ⟨wr.heap.size, 10, none⟩ = some (.slice x.acts.A x.acts.l.length x.acts.c) := k3.cell 10
      have hl3 := k3.lt
      clear x0 x1 x2 x3 x4 x5 x6 x7 x8 x9 x10
      go_wp2_with fail
      refine (list1_Pt (po := po) x honek hQ hq3 hw3 hB3 (by simp only [List.length_append]; omega) ho3).mono ?_
      rintro e w4 ⟨rfl, T4, h4, hf4, hg4⟩
      go_wp2_with fail
      refine ⟨⟨k + 1, T4, by omega, by go_num, ?_, hfr.grw hgr ((Fr.of_below hb3 T').trans hf4), hgr.trans hfr.size (hg4.alloc_left hb3.size)⟩, by simp [intOf]; omega⟩
      rw [hT2.out, ← hT1.out, ← List.append_assoc]
      exact h4
    · obtain rfl : k = hl0.length := by omega
      have HT : Hid (hl0.take hl0.length = hl0) := List.take_length
      rw [HT.out, List.append_assoc] at hwr
      go_wp2_with fail
      go_end0
      exact ⟨rfl, T', hwr, hfr, hgr⟩
set_option maxRecDepth 100000 in
theorem list_Pt {wa : World} {g : Nat} {Q : (Nat → Prop) → World → Prop} {enc : Pt → List UInt8} {bad : Pt → Bool} {h : Hd Pt} {N M : Nat} (hh : rdPts.ok wa h) (hn : h.l.length ≤ 100) (hone : ∀ x ∈ h.l, OneW wa g Q 16 #[.pointer (some ⟨g, 0, none⟩), .agg #[.slice x.regs.A x.regs.l.length x.regs.c, .slice x.procs.A x.procs.l.length x.procs.c, .slice x.ports.A x.ports.l.length x.ports.c, .slice x.sems.A x.sems.l.length x.sems.c, .int .i64 x.flags, .slice x.pools.A x.pools.l.length x.pools.c, .slice x.slates.A x.slates.l.length x.slates.c, .int .i64 x.cap, .int .i64 x.bud, .int .i64 x.lad, .slice x.acts.A x.acts.l.length x.acts.c]] N (enc x) (bad x))
    (hM : ∀ x ∈ h.l, (enc x).length ≤ M) (hN : N ≤ 60000000) {T : Nat → Prop} {W : World} {l : List UInt8} {lg : Bool}
    (hQ : Stq Q) (hq : Q T W) (hw : WrC W wa.heap.size g T l lg) (hB : Below wa.heap.size wa W) (hl : l.length + 11 + 100 * M ≤ N) :
    Calls Tryz.prog 15 #[.pointer (some ⟨g, 0, none⟩), .slice h.A h.l.length h.c, .func (.func 16) #[.pointer (some ⟨g, 0, none⟩)] #[]] W (Wro W wa.heap.size g T (l ++ (vint h.l.length ++ h.l.flatMap enc)) (lg || (decide (64 < h.l.length) || h.l.any bad))) := by
  have hb1 := (Below.refl W.heap.size W).alloc (Nat.le_refl _) (.cells #[.func (.func 16) #[.pointer (some ⟨g, 0, none⟩)] #[]] 67)
  have k1 := Blk.new W 67 #[.func (.func 16) #[.pointer (some ⟨g, 0, none⟩)] #[]]
  have hw1 := hw.keep hb1
  have hT1 : ¬ T W.heap.size := fun h => by have := hw.bnd _ h; omega
  have hq1 := hQ T T _ _ hq (Fr.of_below hb1 T) (fun b hb => ⟨.inl hb, Nat.lt_of_lt_of_le (hw.bnd b hb) hb1.size⟩)
  have hgl := hw1.lt
  go_enter Tryz.func15, Tryz.ntmps15
  go_upto_region 1 with fail
  generalize W.alloc (.cells #[.func (.func 16) #[.pointer (some ⟨g, 0, none⟩)] #[]] 67) = W1 at hb1 k1 hw1 hq1 hgl ⊢
  have hB1 := hB.trans (hb1.mono hB.size)
  have hwg := hw1
  obtain ⟨⟨v, kb, hrow, hv⟩, h6, h7, h8⟩ := hwg
  have c1 : W1.cell? ⟨g, 1, none⟩ = some (.bool lg) := kb.cell 1
  have f1 : W1.frozen? ⟨g, 1, none⟩ = false := kb.frozen 1
  have hpg : W.heap.size ≠ g := fun h => by rw [h] at hT1; exact hT1 hw.tg
  have fin : ∀ lg2 : Bool, (lg || decide (64 < h.l.length)) = lg2 → Hid (Calls Tryz.prog 55 #[.pointer (some ⟨g, 0, none⟩), .slice h.A h.l.length h.c, .func (.func 56) #[] #[.pointer (some ⟨W.heap.size, 0, none⟩)]] (W1.setCell ⟨g, 1, none⟩ (.bool lg2)) (Wro W wa.heap.size g T (l ++ (vint h.l.length ++ h.l.flatMap enc)) (lg || (decide (64 < h.l.length) || h.l.any bad)))) := fun lg2 h2 => by
    have hwn := hw1.setLong lg2
    have hfn : Fr T W1 (W1.setCell ⟨g, 1, none⟩ (.bool lg2)) := (Fr.refl T W1).setCell (p := ⟨g, 1, none⟩) (fun _ => hw.tg) _
    have hgn : Grw T T W1 (W1.setCell ⟨g, 1, none⟩ (.bool lg2)) := fun b hb => ⟨.inl hb, hwn.bnd b hb⟩
    have hBn := hB1.trans (hfn.below (fun b hb h => by have := hw.lo b h; omega) hB1.size)
    refine (put_Pt (po := W.heap.size) hh hn hone hM hN hQ (hQ _ _ _ _ hq1 hfn hgn) hwn hBn hl (k1.fr hfn hT1) hT1).mono ?_
    rintro e W9 ⟨rfl, T9, h9, hf9, hg9⟩
    refine ⟨rfl, T9, ?_, (Fr.of_below hb1 T).trans (hfn.trans hf9), (hg9.alloc_left (W0 := W1) hfn.size).alloc_left hb1.size⟩
    rw [← Bool.or_assoc, h2]
    exact h9
  cases hlg : lg with
  | true =>
    have FN := fin true (by rw [hlg]; rfl)
    rw [hlg] at c1
    clear fin hlg
    go_wp2_with fail
    refine FN.out.mono ?_
    rintro e W9 ⟨rfl, h9⟩
    go_wp2_with fail
    go_end0
    exact ⟨rfl, h9⟩
  | false =>
    rw [hlg] at c1
    have FN := fin (decide (64 < (h.l.length : Int))) (by rw [hlg, Bool.false_or]; exact decide_eq_decide.2 (by omega))
    clear fin hlg
    go_wp2_with fail
    refine FN.out.mono ?_
    rintro e W9 ⟨rfl, h9⟩
    go_wp2_with fail
    go_end0
    exact ⟨rfl, h9⟩
set_option maxRecDepth 100000 in
theorem list1_Md {wa : World} {g po : Nat} {Q : (Nat → Prop) → World → Prop} {enc : List UInt8} {bad : Bool} (x : Md) {N : Nat} (hone : OneW wa g Q 21 #[.pointer (some ⟨g, 0, none⟩), .agg #[.int .i64 x.frame, .slice x.wins.A x.wins.l.length x.wins.c]] N enc bad) {T : Nat → Prop} {W : World} {l : List UInt8} {lg : Bool}
    (hQ : Stq Q) (hq : Q T W) (hw : WrC W wa.heap.size g T l lg) (hB : Below wa.heap.size wa W) (hl : l.length ≤ N) (ho : Blk W po 76 #[.func (.func 21) #[.pointer (some ⟨g, 0, none⟩)] #[]]) :
    Calls Tryz.prog 72 #[.pointer (some ⟨g, 0, none⟩), .agg #[.int .i64 x.frame, .slice x.wins.A x.wins.l.length x.wins.c], .pointer (some ⟨po, 0, none⟩)] W (Wro W wa.heap.size g T (l ++ enc) (lg || bad)) := by
  have hb1 := (Below.refl W.heap.size W).alloc (Nat.le_refl _) (.cells #[.int .i64 x.frame, .slice x.wins.A x.wins.l.length x.wins.c] 58)
  have k1 := Blk.new W 58 #[.int .i64 x.frame, .slice x.wins.A x.wins.l.length x.wins.c]
  have hw1 := hw.keep hb1
  have ho1 := ho.keep hb1
  have hq1 := hQ T T _ _ hq (Fr.of_below hb1 T) (fun b hb => ⟨.inl hb, Nat.lt_of_lt_of_le (hw.bnd b hb) hb1.size⟩)
  have hB1 := hB.trans (hb1.mono hB.size)
  go_enter Tryz.func72, Tryz.ntmps72
  go_upto_region 1 with fail
  generalize W.alloc (.cells #[.int .i64 x.frame, .slice x.wins.A x.wins.l.length x.wins.c] 58) = W1 at hb1 k1 hw1 ho1 hq1 hB1 ⊢
  have c0 : W1.cell? ⟨W.heap.size, 0, none⟩ = some (.int .i64 x.frame) := k1.cell 0
  have c1 : W1.cell? ⟨W.heap.size, 1, none⟩ = some (.slice x.wins.A x.wins.l.length x.wins.c) := k1.cell 1
  have hl1 := k1.lt
  have hlo := ho1.lt
  have o0 : W1.cell? ⟨po, 0, none⟩ = some (.func (.func 21) #[.pointer (some ⟨g, 0, none⟩)] #[]) := ho1.cell 0
  go_wp2_with fail
  refine (hone T W1 l lg hq1 hw1 hB1 hl).mono ?_
  rintro e W2 ⟨rfl, h2⟩
  go_wp2_with fail
  go_end0
  exact Wro.below ⟨rfl, h2⟩ hb1
theorem any_snocMd {bad : Md → Bool} {l : List Md} {k : Nat} (h : k < l.length) (lg : Bool) : (lg || (l.take k).any bad || bad (atD Md0 l k)) = (lg || (l.take (k + 1)).any bad) := by
  rw [take_snocG Md0 l k h]
  simp [Bool.or_assoc]
set_option maxRecDepth 100000 in
theorem put_Md {wa : World} {g po : Nat} {Q : (Nat → Prop) → World → Prop} {enc : Md → List UInt8} {bad : Md → Bool} {h : Hd Md} {N M : Nat} (hh : rdMds.ok wa h) (hn : h.l.length ≤ 100) (hone : ∀ x ∈ h.l, OneW wa g Q 21 #[.pointer (some ⟨g, 0, none⟩), .agg #[.int .i64 x.frame, .slice x.wins.A x.wins.l.length x.wins.c]] N (enc x) (bad x))
    (hM : ∀ x ∈ h.l, (enc x).length ≤ M) (hN : N ≤ 60000000) {T : Nat → Prop} {W : World} {l : List UInt8} {lg : Bool}
    (hQ : Stq Q) (hq : Q T W) (hw : WrC W wa.heap.size g T l lg) (hB : Below wa.heap.size wa W) (hl : l.length + 11 + 100 * M ≤ N) (ho : Blk W po 76 #[.func (.func 21) #[.pointer (some ⟨g, 0, none⟩)] #[]]) (hpo : ¬ T po) :
    Calls Tryz.prog 71 #[.pointer (some ⟨g, 0, none⟩), .slice h.A h.l.length h.c, .func (.func 72) #[] #[.pointer (some ⟨po, 0, none⟩)]] W (Wro W wa.heap.size g T (l ++ (vint h.l.length ++ h.l.flatMap enc)) (lg || h.l.any bad)) := by
  have hgl := hw.lt
  have hBs := hB.size
  obtain ⟨A, c, hl0⟩ := h
  simp only at hh hn hone hM ⊢
  have hvl := vint_len (hl0.length : Int)
  go_enter Tryz.func71, Tryz.ntmps71
  go_wp2_with fail
  refine (writeIntC_any hw hBs (by omega) (n := (hl0.length : Int)) (by unfold i64; omega)).mono ?_
  rintro e w2 ⟨rfl, T2, h2, hf2, hg2⟩
  go_wp2_with fail
  go_loopw [16] (fun i wr => ∃ (k : Nat) (T' : Nat → Prop), k ≤ hl0.length ∧ i = .int .i64 (k : Int) ∧ WrC wr wa.heap.size g T' ((l ++ vint hl0.length) ++ (hl0.take k).flatMap enc) (lg || (hl0.take k).any bad) ∧ Fr T W wr ∧ Grw T T' W wr) (fun i _ => hl0.length - (intOf i).toNat)
  case atStart => exact ⟨0, T2, Nat.zero_le _, rfl, by simpa using h2, hf2, hg2⟩
  case round =>
    obtain ⟨k, T', hk, rfl, hwr, hfr, hgr⟩ := hrel
    have hqr := hQ _ _ _ _ hq hfr hgr
    have hBr := hB.trans (hfr.below (fun b hb h => by have := hw.lo b h; omega) hBs)
    have hor := ho.fr hfr hpo
    by_cases hlt : k < hl0.length
    · have hT1 := Lib.hid (any_snocMd (bad := bad) hlt lg)
      have hT2 : Hid ((hl0.take (k + 1)).flatMap enc = (hl0.take k).flatMap enc ++ enc (atD Md0 hl0 k)) := by
        unfold Hid
        rw [take_snocG Md0 hl0 k hlt, List.flatMap_append]
        simp
      have hfl : ((hl0.take k).flatMap enc).length ≤ k * M := flat_le enc _ (fun x hx => hM x (List.mem_of_mem_take hx)) k (by rw [List.length_take]; omega)
      have hkM : k * M ≤ 100 * M := Nat.mul_le_mul_right M (by omega)
      have honek := hone _ (atD_mem (d := Md0) hlt)
      obtain ⟨eb, eo, rfl, heb, hec⟩ := (rdMds.keep hh hBr).1.at_ Md0 hlt
      have x0 : wr.cell? ⟨eb, eo + k * 2, none⟩ = some (.int .i64 (atD Md0 hl0 k).frame) := hec 0 _ rfl
      have x1 : wr.cell? ⟨eb, eo + k * 2 + 1, none⟩ = some (.slice (atD Md0 hl0 k).wins.A (atD Md0 hl0 k).wins.l.length (atD Md0 hl0 k).wins.c) := hec 1 _ rfl
      clear hec
      generalize atD Md0 hl0 k = x at x0 x1 hT1 hT2 honek
      have hb3 := (Below.refl wr.heap.size wr).alloc (Nat.le_refl _) (.cells #[.int .i64 x.frame, .slice x.wins.A x.wins.l.length x.wins.c] 58)
      have k3 := Blk.new wr 58 #[.int .i64 x.frame, .slice x.wins.A x.wins.l.length x.wins.c]
      go_upto_region 5 with fail
      generalize wr.alloc (.cells #[.int .i64 x.frame, .slice x.wins.A x.wins.l.length x.wins.c] 58) = w3 at hb3 k3 ⊢
      have hw3 := hwr.keep hb3
      have ho3 := hor.keep hb3
      have hq3 := hQ T' T' _ _ hqr (Fr.of_below hb3 T') (fun b hb => ⟨.inl hb, Nat.lt_of_lt_of_le (hwr.bnd b hb) hb3.size⟩)
      have hB3 := hBr.trans (hb3.mono hBr.size)
      have y0 : w3.cell? ⟨wr.heap.size, 0, none⟩ = some (.int .i64 x.frame) := k3.cell 0
      have y1 : w3.cell? ⟨wr.heap.size, 1, none⟩ = some (.slice x.wins.A x.wins.l.length x.wins.c) := k3.cell 1
      have hl3 := k3.lt
      clear x0 x1
      go_wp2_with fail
      refine (list1_Md (po := po) x honek hQ hq3 hw3 hB3 (by simp only [List.length_append]; omega) ho3).mono ?_
      rintro e w4 ⟨rfl, T4, h4, hf4, hg4⟩
      go_wp2_with fail
      refine ⟨⟨k + 1, T4, by omega, by go_num, ?_, hfr.grw hgr ((Fr.of_below hb3 T').trans hf4), hgr.trans hfr.size (hg4.alloc_left hb3.size)⟩, by simp [intOf]; omega⟩
      rw [hT2.out, ← hT1.out, ← List.append_assoc]
      exact h4
    · obtain rfl : k = hl0.length := by omega
      have HT : Hid (hl0.take hl0.length = hl0) := List.take_length
      rw [HT.out, List.append_assoc] at hwr
      go_wp2_with fail
      go_end0
      exact ⟨rfl, T', hwr, hfr, hgr⟩
set_option maxRecDepth 100000 in
theorem list_Md {wa : World} {g : Nat} {Q : (Nat → Prop) → World → Prop} {enc : Md → List UInt8} {bad : Md → Bool} {h : Hd Md} {N M : Nat} (hh : rdMds.ok wa h) (hn : h.l.length ≤ 100) (hone : ∀ x ∈ h.l, OneW wa g Q 21 #[.pointer (some ⟨g, 0, none⟩), .agg #[.int .i64 x.frame, .slice x.wins.A x.wins.l.length x.wins.c]] N (enc x) (bad x))
    (hM : ∀ x ∈ h.l, (enc x).length ≤ M) (hN : N ≤ 60000000) {T : Nat → Prop} {W : World} {l : List UInt8} {lg : Bool}
    (hQ : Stq Q) (hq : Q T W) (hw : WrC W wa.heap.size g T l lg) (hB : Below wa.heap.size wa W) (hl : l.length + 11 + 100 * M ≤ N) :
    Calls Tryz.prog 20 #[.pointer (some ⟨g, 0, none⟩), .slice h.A h.l.length h.c, .func (.func 21) #[.pointer (some ⟨g, 0, none⟩)] #[]] W (Wro W wa.heap.size g T (l ++ (vint h.l.length ++ h.l.flatMap enc)) (lg || (decide (64 < h.l.length) || h.l.any bad))) := by
  have hb1 := (Below.refl W.heap.size W).alloc (Nat.le_refl _) (.cells #[.func (.func 21) #[.pointer (some ⟨g, 0, none⟩)] #[]] 76)
  have k1 := Blk.new W 76 #[.func (.func 21) #[.pointer (some ⟨g, 0, none⟩)] #[]]
  have hw1 := hw.keep hb1
  have hT1 : ¬ T W.heap.size := fun h => by have := hw.bnd _ h; omega
  have hq1 := hQ T T _ _ hq (Fr.of_below hb1 T) (fun b hb => ⟨.inl hb, Nat.lt_of_lt_of_le (hw.bnd b hb) hb1.size⟩)
  have hgl := hw1.lt
  go_enter Tryz.func20, Tryz.ntmps20
  go_upto_region 1 with fail
  generalize W.alloc (.cells #[.func (.func 21) #[.pointer (some ⟨g, 0, none⟩)] #[]] 76) = W1 at hb1 k1 hw1 hq1 hgl ⊢
  have hB1 := hB.trans (hb1.mono hB.size)
  have hwg := hw1
  obtain ⟨⟨v, kb, hrow, hv⟩, h6, h7, h8⟩ := hwg
  have c1 : W1.cell? ⟨g, 1, none⟩ = some (.bool lg) := kb.cell 1
  have f1 : W1.frozen? ⟨g, 1, none⟩ = false := kb.frozen 1
  have hpg : W.heap.size ≠ g := fun h => by rw [h] at hT1; exact hT1 hw.tg
  have fin : ∀ lg2 : Bool, (lg || decide (64 < h.l.length)) = lg2 → Hid (Calls Tryz.prog 71 #[.pointer (some ⟨g, 0, none⟩), .slice h.A h.l.length h.c, .func (.func 72) #[] #[.pointer (some ⟨W.heap.size, 0, none⟩)]] (W1.setCell ⟨g, 1, none⟩ (.bool lg2)) (Wro W wa.heap.size g T (l ++ (vint h.l.length ++ h.l.flatMap enc)) (lg || (decide (64 < h.l.length) || h.l.any bad)))) := fun lg2 h2 => by
    have hwn := hw1.setLong lg2
    have hfn : Fr T W1 (W1.setCell ⟨g, 1, none⟩ (.bool lg2)) := (Fr.refl T W1).setCell (p := ⟨g, 1, none⟩) (fun _ => hw.tg) _
    have hgn : Grw T T W1 (W1.setCell ⟨g, 1, none⟩ (.bool lg2)) := fun b hb => ⟨.inl hb, hwn.bnd b hb⟩
    have hBn := hB1.trans (hfn.below (fun b hb h => by have := hw.lo b h; omega) hB1.size)
    refine (put_Md (po := W.heap.size) hh hn hone hM hN hQ (hQ _ _ _ _ hq1 hfn hgn) hwn hBn hl (k1.fr hfn hT1) hT1).mono ?_
    rintro e W9 ⟨rfl, T9, h9, hf9, hg9⟩
    refine ⟨rfl, T9, ?_, (Fr.of_below hb1 T).trans (hfn.trans hf9), (hg9.alloc_left (W0 := W1) hfn.size).alloc_left hb1.size⟩
    rw [← Bool.or_assoc, h2]
    exact h9
  cases hlg : lg with
  | true =>
    have FN := fin true (by rw [hlg]; rfl)
    rw [hlg] at c1
    clear fin hlg
    go_wp2_with fail
    refine FN.out.mono ?_
    rintro e W9 ⟨rfl, h9⟩
    go_wp2_with fail
    go_end0
    exact ⟨rfl, h9⟩
  | false =>
    rw [hlg] at c1
    have FN := fin (decide (64 < (h.l.length : Int))) (by rw [hlg, Bool.false_or]; exact decide_eq_decide.2 (by omega))
    clear fin hlg
    go_wp2_with fail
    refine FN.out.mono ?_
    rintro e W9 ⟨rfl, h9⟩
    go_wp2_with fail
    go_end0
    exact ⟨rfl, h9⟩
set_option maxRecDepth 100000 in
theorem list1_In {wa : World} {g po : Nat} {Q : (Nat → Prop) → World → Prop} {enc : List UInt8} {bad : Bool} (x : Int) {N : Nat} (hone : OneW wa g Q 66 #[.pointer (some ⟨g, 0, none⟩), .int .i64 x] N enc bad) {T : Nat → Prop} {W : World} {l : List UInt8} {lg : Bool}
    (hQ : Stq Q) (hq : Q T W) (hw : WrC W wa.heap.size g T l lg) (hB : Below wa.heap.size wa W) (hl : l.length ≤ N) (ho : Blk W po 139 #[.func (.func 66) #[.pointer (some ⟨g, 0, none⟩)] #[]]) :
    Calls Tryz.prog 133 #[.pointer (some ⟨g, 0, none⟩), .int .i64 x, .pointer (some ⟨po, 0, none⟩)] W (Wro W wa.heap.size g T (l ++ enc) (lg || bad)) := by
  have hlo := ho.lt
  have o0 : W.cell? ⟨po, 0, none⟩ = some (.func (.func 66) #[.pointer (some ⟨g, 0, none⟩)] #[]) := ho.cell 0
  go_enter Tryz.func133, Tryz.ntmps133
  go_wp2_with fail
  refine (hone T W l lg hq hw hB hl).mono ?_
  rintro e W2 ⟨rfl, h2⟩
  go_wp2_with fail
  go_end0
  exact ⟨rfl, h2⟩
theorem any_snocIn {bad : Int → Bool} {l : List Int} {k : Nat} (h : k < l.length) (lg : Bool) : (lg || (l.take k).any bad || bad (atD 0 l k)) = (lg || (l.take (k + 1)).any bad) := by
  rw [take_snocG 0 l k h]
  simp [Bool.or_assoc]
set_option maxRecDepth 100000 in
theorem put_In {wa : World} {g po : Nat} {Q : (Nat → Prop) → World → Prop} {enc : Int → List UInt8} {bad : Int → Bool} {h : Hd Int} {N M : Nat} (hh : Hd.okI wa h) (hn : h.l.length ≤ 100) (hone : ∀ x ∈ h.l, OneW wa g Q 66 #[.pointer (some ⟨g, 0, none⟩), .int .i64 x] N (enc x) (bad x))
    (hM : ∀ x ∈ h.l, (enc x).length ≤ M) (hN : N ≤ 60000000) {T : Nat → Prop} {W : World} {l : List UInt8} {lg : Bool}
    (hQ : Stq Q) (hq : Q T W) (hw : WrC W wa.heap.size g T l lg) (hB : Below wa.heap.size wa W) (hl : l.length + 11 + 100 * M ≤ N) (ho : Blk W po 139 #[.func (.func 66) #[.pointer (some ⟨g, 0, none⟩)] #[]]) (hpo : ¬ T po) :
    Calls Tryz.prog 132 #[.pointer (some ⟨g, 0, none⟩), .slice h.A h.l.length h.c, .func (.func 133) #[] #[.pointer (some ⟨po, 0, none⟩)]] W (Wro W wa.heap.size g T (l ++ (vint h.l.length ++ h.l.flatMap enc)) (lg || h.l.any bad)) := by
  have hgl := hw.lt
  have hBs := hB.size
  obtain ⟨A, c, hl0⟩ := h
  simp only at hh hn hone hM ⊢
  have hvl := vint_len (hl0.length : Int)
  go_enter Tryz.func132, Tryz.ntmps132
  go_wp2_with fail
  refine (writeIntC_any hw hBs (by omega) (n := (hl0.length : Int)) (by unfold i64; omega)).mono ?_
  rintro e w2 ⟨rfl, T2, h2, hf2, hg2⟩
  go_wp2_with fail
  go_loopw [16] (fun i wr => ∃ (k : Nat) (T' : Nat → Prop), k ≤ hl0.length ∧ i = .int .i64 (k : Int) ∧ WrC wr wa.heap.size g T' ((l ++ vint hl0.length) ++ (hl0.take k).flatMap enc) (lg || (hl0.take k).any bad) ∧ Fr T W wr ∧ Grw T T' W wr) (fun i _ => hl0.length - (intOf i).toNat)
  case atStart => exact ⟨0, T2, Nat.zero_le _, rfl, by simpa using h2, hf2, hg2⟩
  case round =>
    obtain ⟨k, T', hk, rfl, hwr, hfr, hgr⟩ := hrel
    have hqr := hQ _ _ _ _ hq hfr hgr
    have hBr := hB.trans (hfr.below (fun b hb h => by have := hw.lo b h; omega) hBs)
    have hor := ho.fr hfr hpo
    by_cases hlt : k < hl0.length
    · have hT1 := Lib.hid (any_snocIn (bad := bad) hlt lg)
      have hT2 : Hid ((hl0.take (k + 1)).flatMap enc = (hl0.take k).flatMap enc ++ enc (atD 0 hl0 k)) := by
        unfold Hid
        rw [take_snocG 0 hl0 k hlt, List.flatMap_append]
        simp
      have hfl : ((hl0.take k).flatMap enc).length ≤ k * M := flat_le enc _ (fun x hx => hM x (List.mem_of_mem_take hx)) k (by rw [List.length_take]; omega)
      have hkM : k * M ≤ 100 * M := Nat.mul_le_mul_right M (by omega)
      have honek := hone _ (atD_mem (d := 0) hlt)
      obtain ⟨eb, eo, rfl, heb, hec⟩ := (SlI.keep hh hBr).at_ hlt
      rw [at0_atD] at hec
      generalize atD 0 hl0 k = x at hec hT1 hT2 honek
      have hw3 := hwr
      have ho3 := hor
      have hq3 := hqr
      have hB3 := hBr
      go_wp2_with fail
      refine (list1_In (po := po) x honek hQ hq3 hw3 hB3 (by simp only [List.length_append]; omega) ho3).mono ?_
      rintro e w4 ⟨rfl, T4, h4, hf4, hg4⟩
      go_wp2_with fail
      refine ⟨⟨k + 1, T4, by omega, by go_num, ?_, hfr.grw hgr hf4, hgr.trans hfr.size hg4⟩, by simp [intOf]; omega⟩
      rw [hT2.out, ← hT1.out, ← List.append_assoc]
      exact h4
    · obtain rfl : k = hl0.length := by omega
      have HT : Hid (hl0.take hl0.length = hl0) := List.take_length
      rw [HT.out, List.append_assoc] at hwr
      go_wp2_with fail
      go_end0
      exact ⟨rfl, T', hwr, hfr, hgr⟩
set_option maxRecDepth 100000 in
theorem list_In {wa : World} {g : Nat} {Q : (Nat → Prop) → World → Prop} {enc : Int → List UInt8} {bad : Int → Bool} {h : Hd Int} {N M : Nat} (hh : Hd.okI wa h) (hn : h.l.length ≤ 100) (hone : ∀ x ∈ h.l, OneW wa g Q 66 #[.pointer (some ⟨g, 0, none⟩), .int .i64 x] N (enc x) (bad x))
    (hM : ∀ x ∈ h.l, (enc x).length ≤ M) (hN : N ≤ 60000000) {T : Nat → Prop} {W : World} {l : List UInt8} {lg : Bool}
    (hQ : Stq Q) (hq : Q T W) (hw : WrC W wa.heap.size g T l lg) (hB : Below wa.heap.size wa W) (hl : l.length + 11 + 100 * M ≤ N) :
    Calls Tryz.prog 79 #[.pointer (some ⟨g, 0, none⟩), .slice h.A h.l.length h.c, .func (.func 66) #[.pointer (some ⟨g, 0, none⟩)] #[]] W (Wro W wa.heap.size g T (l ++ (vint h.l.length ++ h.l.flatMap enc)) (lg || (decide (64 < h.l.length) || h.l.any bad))) := by
  have hb1 := (Below.refl W.heap.size W).alloc (Nat.le_refl _) (.cells #[.func (.func 66) #[.pointer (some ⟨g, 0, none⟩)] #[]] 139)
  have k1 := Blk.new W 139 #[.func (.func 66) #[.pointer (some ⟨g, 0, none⟩)] #[]]
  have hw1 := hw.keep hb1
  have hT1 : ¬ T W.heap.size := fun h => by have := hw.bnd _ h; omega
  have hq1 := hQ T T _ _ hq (Fr.of_below hb1 T) (fun b hb => ⟨.inl hb, Nat.lt_of_lt_of_le (hw.bnd b hb) hb1.size⟩)
  have hgl := hw1.lt
  go_enter Tryz.func79, Tryz.ntmps79
  go_upto_region 1 with fail
  generalize W.alloc (.cells #[.func (.func 66) #[.pointer (some ⟨g, 0, none⟩)] #[]] 139) = W1 at hb1 k1 hw1 hq1 hgl ⊢
  have hB1 := hB.trans (hb1.mono hB.size)
  have hwg := hw1
  obtain ⟨⟨v, kb, hrow, hv⟩, h6, h7, h8⟩ := hwg
  have c1 : W1.cell? ⟨g, 1, none⟩ = some (.bool lg) := kb.cell 1
  have f1 : W1.frozen? ⟨g, 1, none⟩ = false := kb.frozen 1
  have hpg : W.heap.size ≠ g := fun h => by rw [h] at hT1; exact hT1 hw.tg
  have fin : ∀ lg2 : Bool, (lg || decide (64 < h.l.length)) = lg2 → Hid (Calls Tryz.prog 132 #[.pointer (some ⟨g, 0, none⟩), .slice h.A h.l.length h.c, .func (.func 133) #[] #[.pointer (some ⟨W.heap.size, 0, none⟩)]] (W1.setCell ⟨g, 1, none⟩ (.bool lg2)) (Wro W wa.heap.size g T (l ++ (vint h.l.length ++ h.l.flatMap enc)) (lg || (decide (64 < h.l.length) || h.l.any bad)))) := fun lg2 h2 => by
    have hwn := hw1.setLong lg2
    have hfn : Fr T W1 (W1.setCell ⟨g, 1, none⟩ (.bool lg2)) := (Fr.refl T W1).setCell (p := ⟨g, 1, none⟩) (fun _ => hw.tg) _
    have hgn : Grw T T W1 (W1.setCell ⟨g, 1, none⟩ (.bool lg2)) := fun b hb => ⟨.inl hb, hwn.bnd b hb⟩
    have hBn := hB1.trans (hfn.below (fun b hb h => by have := hw.lo b h; omega) hB1.size)
    refine (put_In (po := W.heap.size) hh hn hone hM hN hQ (hQ _ _ _ _ hq1 hfn hgn) hwn hBn hl (k1.fr hfn hT1) hT1).mono ?_
    rintro e W9 ⟨rfl, T9, h9, hf9, hg9⟩
    refine ⟨rfl, T9, ?_, (Fr.of_below hb1 T).trans (hfn.trans hf9), (hg9.alloc_left (W0 := W1) hfn.size).alloc_left hb1.size⟩
    rw [← Bool.or_assoc, h2]
    exact h9
  cases hlg : lg with
  | true =>
    have FN := fin true (by rw [hlg]; rfl)
    rw [hlg] at c1
    clear fin hlg
    go_wp2_with fail
    refine FN.out.mono ?_
    rintro e W9 ⟨rfl, h9⟩
    go_wp2_with fail
    go_end0
    exact ⟨rfl, h9⟩
  | false =>
    rw [hlg] at c1
    have FN := fin (decide (64 < (h.l.length : Int))) (by rw [hlg, Bool.false_or]; exact decide_eq_decide.2 (by omega))
    clear fin hlg
    go_wp2_with fail
    refine FN.out.mono ?_
    rintro e W9 ⟨rfl, h9⟩
    go_wp2_with fail
    go_end0
    exact ⟨rfl, h9⟩
end Go.Proofs.YtahjnonkhbpnpaaGreat
/- The walk of the document's Short. Printed by wip/gen_short.py. -/
namespace Go.Proofs.YtahjnonkhbpnpaaGreat
open Go.RowKit
def Cf.v (x : Cf) : Value := .agg #[.slice x.parts.A x.parts.l.length x.parts.c, .slice x.chans.A x.chans.l.length x.chans.c, .slice x.modes.A x.modes.l.length x.modes.c, .slice x.pw.levels.A x.pw.levels.l.length x.pw.levels.c, .slice x.pw.naps.A x.pw.naps.l.length x.pw.naps.c, .int .i64 x.pw.sw, .int .i64 x.pw.idle, .int .i64 x.pw.change, .int .i64 x.pw.quant, .int .i64 x.pw.slow, .int .i64 x.pw.ppm, .slice x.shed.down.A x.shed.down.l.length x.shed.down.c, .slice x.shed.up.A x.shed.up.l.length x.shed.up.c]
def Pt.short (p : Pt) : Prop := p.regs.l.length ≤ 100 ∧ p.procs.l.length ≤ 100 ∧ p.ports.l.length ≤ 100 ∧ p.sems.l.length ≤ 100 ∧ p.pools.l.length ≤ 100 ∧ p.slates.l.length ≤ 100 ∧ p.acts.l.length ≤ 100
/-- a configuration with short lists. -/
def Cf.short (x : Cf) : Prop := (x.parts.l.length ≤ 100 ∧ x.chans.l.length ≤ 100 ∧ x.modes.l.length ≤ 100 ∧ x.pw.levels.l.length ≤ 100 ∧ x.pw.naps.l.length ≤ 100 ∧ x.shed.down.l.length ≤ 100 ∧ x.shed.up.l.length ≤ 100) ∧
  (∀ p ∈ x.parts.l, p.short) ∧ ∀ m ∈ x.modes.l, m.wins.l.length ≤ 100
def ShortPost (x : Cf) (w : World) (e : Ending) (w' : World) : Prop := ∃ b, e = .returned (.bool b) ∧ (b = true → x.short) ∧ Below w.heap.size w w'
theorem all_take_succ {α : Type} {d : α} {p : α → Prop} {l : List α} {k : Nat} (hk : k < l.length) (h : ∀ x ∈ l.take k, p x) (h' : p (atD d l k)) : ∀ x ∈ l.take (k + 1), p x := by
  rw [take_snocG d l k hk]
  intro x hx
  rcases List.mem_append.1 hx with hx | hx
  · exact h x hx
  · rw [List.mem_singleton.1 hx]; exact h'
theorem shortPost_no {x : Cf} {w w' : World} (h : Below w.heap.size w w') : ShortPost x w (.returned (.bool false)) w' := ⟨false, rfl, (fun h => by cases h), h⟩
set_option maxRecDepth 100000 in
set_option maxHeartbeats 6400000 in
theorem short_any {x : Cf} {w : World} (hx : x.ok w) :
    Calls Tryz.prog 7 #[x.v] w (ShortPost x w) := by
  have hb := ((Below.refl w.heap.size w).alloc (Nat.le_refl _) (.cells #[.slice x.parts.A x.parts.l.length x.parts.c, .slice x.chans.A x.chans.l.length x.chans.c, .slice x.modes.A x.modes.l.length x.modes.c, .slice x.pw.levels.A x.pw.levels.l.length x.pw.levels.c, .slice x.pw.naps.A x.pw.naps.l.length x.pw.naps.c, .int .i64 x.pw.sw, .int .i64 x.pw.idle, .int .i64 x.pw.change, .int .i64 x.pw.quant, .int .i64 x.pw.slow, .int .i64 x.pw.ppm, .slice x.shed.down.A x.shed.down.l.length x.shed.down.c, .slice x.shed.up.A x.shed.up.l.length x.shed.up.c] 33))
  have b1 := Blk.new w 33 #[.slice x.parts.A x.parts.l.length x.parts.c, .slice x.chans.A x.chans.l.length x.chans.c, .slice x.modes.A x.modes.l.length x.modes.c, .slice x.pw.levels.A x.pw.levels.l.length x.pw.levels.c, .slice x.pw.naps.A x.pw.naps.l.length x.pw.naps.c, .int .i64 x.pw.sw, .int .i64 x.pw.idle, .int .i64 x.pw.change, .int .i64 x.pw.quant, .int .i64 x.pw.slow, .int .i64 x.pw.ppm, .slice x.shed.down.A x.shed.down.l.length x.shed.down.c, .slice x.shed.up.A x.shed.up.l.length x.shed.up.c]
  have hn0 := hx.1.1.len
  have hn1 := hx.2.1.1.len
  have hn2 := hx.2.2.1.1.len
  have hn3 := hx.2.2.2.1.1.1.len
  have hn4 := hx.2.2.2.1.2.1.1.len
  have hn5 := hx.2.2.2.2.1.len
  have hn6 := hx.2.2.2.2.2.len
  simp only [Cf.v]
  go_enter Tryz.func7, Tryz.ntmps7
  go_upto_region 1 with fail
  generalize w.alloc (.cells #[.slice x.parts.A x.parts.l.length x.parts.c, .slice x.chans.A x.chans.l.length x.chans.c, .slice x.modes.A x.modes.l.length x.modes.c, .slice x.pw.levels.A x.pw.levels.l.length x.pw.levels.c, .slice x.pw.naps.A x.pw.naps.l.length x.pw.naps.c, .int .i64 x.pw.sw, .int .i64 x.pw.idle, .int .i64 x.pw.change, .int .i64 x.pw.quant, .int .i64 x.pw.slow, .int .i64 x.pw.ppm, .slice x.shed.down.A x.shed.down.l.length x.shed.down.c, .slice x.shed.up.A x.shed.up.l.length x.shed.up.c] 33) = w1 at hb b1 ⊢
  have c0 : w1.cell? ⟨w.heap.size, 0, none⟩ = some (.slice x.parts.A x.parts.l.length x.parts.c) := b1.cell 0
  have c1 : w1.cell? ⟨w.heap.size, 1, none⟩ = some (.slice x.chans.A x.chans.l.length x.chans.c) := b1.cell 1
  have c2 : w1.cell? ⟨w.heap.size, 2, none⟩ = some (.slice x.modes.A x.modes.l.length x.modes.c) := b1.cell 2
  have c3 : w1.cell? ⟨w.heap.size, 3, none⟩ = some (.slice x.pw.levels.A x.pw.levels.l.length x.pw.levels.c) := b1.cell 3
  have c4 : w1.cell? ⟨w.heap.size, 4, none⟩ = some (.slice x.pw.naps.A x.pw.naps.l.length x.pw.naps.c) := b1.cell 4
  have c11 : w1.cell? ⟨w.heap.size, 11, none⟩ = some (.slice x.shed.down.A x.shed.down.l.length x.shed.down.c) := b1.cell 11
  have c12 : w1.cell? ⟨w.heap.size, 12, none⟩ = some (.slice x.shed.up.A x.shed.up.l.length x.shed.up.c) := b1.cell 12
  have hs := hb.size
  by_cases h1 : 100 < x.parts.l.length
  · have _d := True.intro
    go_wp2_with fail
    go_ret
    exact shortPost_no hb
  · have _d := True.intro
    by_cases h2 : 100 < x.chans.l.length
    · have _d := True.intro
      go_wp2_with fail
      go_ret
      exact shortPost_no hb
    · have _d := True.intro
      by_cases h3 : 100 < x.modes.l.length
      · have _d := True.intro
        go_wp2_with fail
        go_ret
        exact shortPost_no hb
      · have _d := True.intro
        by_cases h4 : 100 < x.pw.levels.l.length
        · have _d := True.intro
          go_wp2_with fail
          go_ret
          exact shortPost_no hb
        · have _d := True.intro
          by_cases h5 : 100 < x.pw.naps.l.length
          · have _d := True.intro
            go_wp2_with fail
            go_ret
            exact shortPost_no hb
          · have _d := True.intro
            by_cases h6 : 100 < x.shed.down.l.length
            · have _d := True.intro
              go_wp2_with fail
              go_ret
              exact shortPost_no hb
            · have _d := True.intro
              by_cases h7 : 100 < x.shed.up.l.length
              · have _d := True.intro
                go_wp2_with fail
                go_ret
                exact shortPost_no hb
              · have _d := True.intro
                obtain ⟨wo, rfl⟩ : ∃ wo : World, wo = w := ⟨_, rfl⟩
                have H7 : Hid (x.parts.l.length ≤ 100 ∧ x.chans.l.length ≤ 100 ∧ x.modes.l.length ≤ 100 ∧ x.pw.levels.l.length ≤ 100 ∧ x.pw.naps.l.length ≤ 100 ∧ x.shed.down.l.length ≤ 100 ∧ x.shed.up.l.length ≤ 100) := ⟨by omega, by omega, by omega, by omega, by omega, by omega, by omega⟩
                go_wp2_with fail
                go_loopw [3] (fun i wr => ∃ k : Nat, k ≤ x.parts.l.length ∧ i = .int .i64 (k : Int) ∧ (∀ p ∈ x.parts.l.take k, p.short) ∧ Below w1.heap.size w1 wr) (fun i _ => x.parts.l.length - (intOf i).toNat)
                case atStart => exact ⟨0, Nat.zero_le _, rfl, (fun p hp => by simp at hp), Below.refl _ _⟩
                case round =>
                  obtain ⟨k, hk, rfl, hps, hbw⟩ := hrel
                  have HP := Lib.hid hps
                  clear hps
                  have bw := b1.keep hbw
                  clear c0 c1 c2 c3 c4 c11 c12
                  have hB := hb.trans (hbw.mono hb.size)
                  have hBs := hB.size
                  have hlw := bw.lt
                  by_cases hlt : k < x.parts.l.length
                  · obtain ⟨pb, po, hA, hpb, hpc⟩ := (rdPts.keep hx.1 hB).1.at_ Pt0 hlt
                    have hpk := (rdPts.keep hx.1 hB).2 _ (atD_mem (d := Pt0) hlt)
                    have c0 : wr.cell? ⟨wo.heap.size, 0, none⟩ = some (.slice x.parts.A x.parts.l.length x.parts.c) := bw.cell 0
                    rw [hA] at c0
                    have HS := fun (h : (atD Pt0 x.parts.l k).short) => all_take_succ hlt HP.out h
                    have x0 : wr.cell? ⟨pb, po + k * 11, none⟩ = some (.slice (atD Pt0 x.parts.l k).regs.A (atD Pt0 x.parts.l k).regs.l.length (atD Pt0 x.parts.l k).regs.c) := hpc 0 _ rfl
                    have x1 : wr.cell? ⟨pb, po + k * 11 + 1, none⟩ = some (.slice (atD Pt0 x.parts.l k).procs.A (atD Pt0 x.parts.l k).procs.l.length (atD Pt0 x.parts.l k).procs.c) := hpc 1 _ rfl
                    have x2 : wr.cell? ⟨pb, po + k * 11 + 2, none⟩ = some (.slice (atD Pt0 x.parts.l k).ports.A (atD Pt0 x.parts.l k).ports.l.length (atD Pt0 x.parts.l k).ports.c) := hpc 2 _ rfl
                    have x3 : wr.cell? ⟨pb, po + k * 11 + 3, none⟩ = some (.slice (atD Pt0 x.parts.l k).sems.A (atD Pt0 x.parts.l k).sems.l.length (atD Pt0 x.parts.l k).sems.c) := hpc 3 _ rfl
                    have x4 : wr.cell? ⟨pb, po + k * 11 + 4, none⟩ = some (.int .i64 (atD Pt0 x.parts.l k).flags) := hpc 4 _ rfl
                    have x5 : wr.cell? ⟨pb, po + k * 11 + 5, none⟩ = some (.slice (atD Pt0 x.parts.l k).pools.A (atD Pt0 x.parts.l k).pools.l.length (atD Pt0 x.parts.l k).pools.c) := hpc 5 _ rfl
                    have x6 : wr.cell? ⟨pb, po + k * 11 + 6, none⟩ = some (.slice (atD Pt0 x.parts.l k).slates.A (atD Pt0 x.parts.l k).slates.l.length (atD Pt0 x.parts.l k).slates.c) := hpc 6 _ rfl
                    have x7 : wr.cell? ⟨pb, po + k * 11 + 7, none⟩ = some (.int .i64 (atD Pt0 x.parts.l k).cap) := hpc 7 _ rfl
                    have x8 : wr.cell? ⟨pb, po + k * 11 + 8, none⟩ = some (.int .i64 (atD Pt0 x.parts.l k).bud) := hpc 8 _ rfl
                    have x9 : wr.cell? ⟨pb, po + k * 11 + 9, none⟩ = some (.int .i64 (atD Pt0 x.parts.l k).lad) := hpc 9 _ rfl
                    have x10 : wr.cell? ⟨pb, po + k * 11 + 10, none⟩ = some (.slice (atD Pt0 x.parts.l k).acts.A (atD Pt0 x.parts.l k).acts.l.length (atD Pt0 x.parts.l k).acts.c) := hpc 10 _ rfl
                    clear hpc hA
                    generalize atD Pt0 x.parts.l k = p at hpk HS x0 x1 x2 x3 x4 x5 x6 x7 x8 x9 x10 ⊢
                    have hm0 := hpk.1.1.len
                    have hm1 := hpk.2.1.1.len
                    have hm2 := hpk.2.2.1.1.len
                    have hm3 := hpk.2.2.2.1.1.len
                    have hm4 := hpk.2.2.2.2.2.1.1.len
                    have hm5 := hpk.2.2.2.2.2.2.1.len
                    have hm6 := hpk.2.2.2.2.2.2.2.2.2.2.len
                    have HQ := Lib.hid HS
                    clear HS
                    have hb6 := (Below.refl wr.heap.size wr).alloc (Nat.le_refl _) (.cells #[.slice p.regs.A p.regs.l.length p.regs.c, .slice p.procs.A p.procs.l.length p.procs.c, .slice p.ports.A p.ports.l.length p.ports.c, .slice p.sems.A p.sems.l.length p.sems.c, .int .i64 p.flags, .slice p.pools.A p.pools.l.length p.pools.c, .slice p.slates.A p.slates.l.length p.slates.c, .int .i64 p.cap, .int .i64 p.bud, .int .i64 p.lad, .slice p.acts.A p.acts.l.length p.acts.c] 55)
                    have b6 := Blk.new wr 55 #[.slice p.regs.A p.regs.l.length p.regs.c, .slice p.procs.A p.procs.l.length p.procs.c, .slice p.ports.A p.ports.l.length p.ports.c, .slice p.sems.A p.sems.l.length p.sems.c, .int .i64 p.flags, .slice p.pools.A p.pools.l.length p.pools.c, .slice p.slates.A p.slates.l.length p.slates.c, .int .i64 p.cap, .int .i64 p.bud, .int .i64 p.lad, .slice p.acts.A p.acts.l.length p.acts.c]
                    go_upto_region 7 with fail
                    generalize wr.alloc (.cells #[.slice p.regs.A p.regs.l.length p.regs.c, .slice p.procs.A p.procs.l.length p.procs.c, .slice p.ports.A p.ports.l.length p.ports.c, .slice p.sems.A p.sems.l.length p.sems.c, .int .i64 p.flags, .slice p.pools.A p.pools.l.length p.pools.c, .slice p.slates.A p.slates.l.length p.slates.c, .int .i64 p.cap, .int .i64 p.bud, .int .i64 p.lad, .slice p.acts.A p.acts.l.length p.acts.c] 55) = w6 at hb6 b6 ⊢
                    have hB6 := hB.trans (hb6.mono hB.size)
                    have hbw6 := hbw.trans (hb6.mono hbw.size)
                    clear x0 x1 x2 x3 x4 x5 x6 x7 x8 x9 x10
                    have y0 : w6.cell? ⟨wr.heap.size, 0, none⟩ = some (.slice p.regs.A p.regs.l.length p.regs.c) := b6.cell 0
                    have y1 : w6.cell? ⟨wr.heap.size, 1, none⟩ = some (.slice p.procs.A p.procs.l.length p.procs.c) := b6.cell 1
                    have y2 : w6.cell? ⟨wr.heap.size, 2, none⟩ = some (.slice p.ports.A p.ports.l.length p.ports.c) := b6.cell 2
                    have y3 : w6.cell? ⟨wr.heap.size, 3, none⟩ = some (.slice p.sems.A p.sems.l.length p.sems.c) := b6.cell 3
                    have y5 : w6.cell? ⟨wr.heap.size, 5, none⟩ = some (.slice p.pools.A p.pools.l.length p.pools.c) := b6.cell 5
                    have y6 : w6.cell? ⟨wr.heap.size, 6, none⟩ = some (.slice p.slates.A p.slates.l.length p.slates.c) := b6.cell 6
                    have y10 : w6.cell? ⟨wr.heap.size, 10, none⟩ = some (.slice p.acts.A p.acts.l.length p.acts.c) := b6.cell 10
                    by_cases h1 : 100 < p.regs.l.length
                    · have _d := True.intro
                      go_wp2_with fail
                      go_ret
                      exact shortPost_no hB6
                    · have _d := True.intro
                      by_cases h2 : 100 < p.procs.l.length
                      · have _d := True.intro
                        go_wp2_with fail
                        go_ret
                        exact shortPost_no hB6
                      · have _d := True.intro
                        by_cases h3 : 100 < p.ports.l.length
                        · have _d := True.intro
                          go_wp2_with fail
                          go_ret
                          exact shortPost_no hB6
                        · have _d := True.intro
                          by_cases h4 : 100 < p.sems.l.length
                          · have _d := True.intro
                            go_wp2_with fail
                            go_ret
                            exact shortPost_no hB6
                          · have _d := True.intro
                            by_cases h5 : 100 < p.pools.l.length
                            · have _d := True.intro
                              go_wp2_with fail
                              go_ret
                              exact shortPost_no hB6
                            · have _d := True.intro
                              by_cases h6 : 100 < p.slates.l.length
                              · have _d := True.intro
                                go_wp2_with fail
                                go_ret
                                exact shortPost_no hB6
                              · have _d := True.intro
                                by_cases h7 : 100 < p.acts.l.length
                                · have _d := True.intro
                                  go_wp2_with fail
                                  go_ret
                                  exact shortPost_no hB6
                                · have _d := True.intro
                                  have H8 := HQ.out ⟨by omega, by omega, by omega, by omega, by omega, by omega, by omega⟩
                                  have H9 := Lib.hid H8
                                  clear H8
                                  go_wp2_with fail
                                  exact ⟨⟨k + 1, by omega, by go_num, H9.out, hbw6⟩, by simp [intOf]; omega⟩
                  · obtain rfl : k = x.parts.l.length := by omega
                    have HP2 : Hid (∀ p ∈ x.parts.l, p.short) := by have := HP.out; rw [List.take_length] at this; exact this
                    clear HP
                    have c0 : wr.cell? ⟨wo.heap.size, 0, none⟩ = some (.slice x.parts.A x.parts.l.length x.parts.c) := bw.cell 0
                    have c2 : wr.cell? ⟨wo.heap.size, 2, none⟩ = some (.slice x.modes.A x.modes.l.length x.modes.c) := bw.cell 2
                    obtain ⟨w2, rfl⟩ : ∃ w2 : World, w2 = wr := ⟨_, rfl⟩
                    go_wp2_with fail
                    go_loopw [5] (fun i wr => ∃ k : Nat, k ≤ x.modes.l.length ∧ i = .int .i64 (k : Int) ∧ (∀ m ∈ x.modes.l.take k, m.wins.l.length ≤ 100) ∧ w2 = wr) (fun i _ => x.modes.l.length - (intOf i).toNat)
                    case atStart => exact ⟨0, Nat.zero_le _, rfl, (fun p hp => by simp at hp), rfl⟩
                    case round =>
                      obtain ⟨k, hk, rfl, hps, rfl⟩ := hrel
                      have HP := Lib.hid hps
                      clear hps
                      by_cases hlt : k < x.modes.l.length
                      · obtain ⟨mb, mo, hA, hmb, hmc⟩ := (rdMds.keep hx.2.2.1 hB).1.at_ Md0 hlt
                        have hmk := (rdMds.keep hx.2.2.1 hB).2 _ (atD_mem (d := Md0) hlt)
                        have m1 : w2.cell? ⟨mb, mo + k * 2 + 1, none⟩ = some (.slice (atD Md0 x.modes.l k).wins.A (atD Md0 x.modes.l k).wins.l.length (atD Md0 x.modes.l k).wins.c) := hmc 1 _ rfl
                        have HS := fun (h : (atD Md0 x.modes.l k).wins.l.length ≤ 100) => all_take_succ (p := fun m : Md => m.wins.l.length ≤ 100) hlt HP.out h
                        have hmn := hmk.2.1.len
                        rw [hA] at c2
                        clear hmc hA hmk
                        generalize atD Md0 x.modes.l k = m at HS m1 hmn
                        by_cases hw : 100 < m.wins.l.length
                        · clear HS
                          go_wp2_with fail
                          go_ret
                          exact shortPost_no hB
                        · have HQ := Lib.hid (HS (by omega))
                          clear HS
                          go_wp2_with fail
                          exact ⟨⟨k + 1, by omega, by go_num, HQ.out, by first | trivial | rfl⟩, by simp [intOf]; omega⟩
                      · obtain rfl : k = x.modes.l.length := by omega
                        go_wp2_with fail
                        go_ret
                        have hM := HP.out
                        rw [List.take_length] at hM
                        exact ⟨true, rfl, fun _ => ⟨H7.out, HP2.out, hM⟩, hB⟩
end Go.Proofs.YtahjnonkhbpnpaaGreat
/- conf's writer: a partition, a mode, the platform. Printed by wip/gen_cwelem.py. -/
namespace Go.Proofs.YtahjnonkhbpnpaaGreat
open Go.RowKit
set_option maxRecDepth 100000 in
theorem numbersC_any {wa : World} {g : Nat} {T : Nat → Prop} {W : World} {l : List UInt8} {lg : Bool} {h : Hd Int} (hh : h.okI wa) (hn : h.l.length ≤ 100) (hw : WrC W wa.heap.size g T l lg) (hB : Below wa.heap.size wa W) (hl : l.length ≤ 59000000) :
    Calls Tryz.prog 23 #[.pointer (some ⟨g, 0, none⟩), .slice h.A h.l.length h.c] W (Wro W wa.heap.size g T (l ++ lst vint h.l) (lg || badL noB h.l)) := by
  have hgl := hw.lt
  go_enter Tryz.func23, Tryz.ntmps23
  go_wp2_with fail
  refine (list_In (N := 60000000) (M := 11) (enc := vint) (bad := noB) hh hn (fun y hy => one_In y (hh.2.2 y hy)) (fun y _ => vint_le y) (by omega) true_stq trivial hw hB (by omega)).mono ?_
  rintro e W2 ⟨rfl, h2⟩
  go_wp2_with fail
  go_end0
  exact ⟨rfl, h2⟩
set_option maxRecDepth 100000 in
set_option maxHeartbeats 3200000 in
theorem one_Pt {wa : World} {g : Nat} (x : Pt) (hx : x.ok wa) (hsh : x.short) : OneW wa g (fun _ _ => True) 16 #[.pointer (some ⟨g, 0, none⟩), .agg #[.slice x.regs.A x.regs.l.length x.regs.c, .slice x.procs.A x.procs.l.length x.procs.c, .slice x.ports.A x.ports.l.length x.ports.c, .slice x.sems.A x.sems.l.length x.sems.c, .int .i64 x.flags, .slice x.pools.A x.pools.l.length x.pools.c, .slice x.slates.A x.slates.l.length x.slates.c, .int .i64 x.cap, .int .i64 x.bud, .int .i64 x.lad, .slice x.acts.A x.acts.l.length x.acts.c]] 40000000 (encPt x) (badPt x) := by
  intro T W l lg _ hw hB hl
  have hbl := ((Below.refl W.heap.size W).alloc (Nat.le_refl _) (.cells #[.pointer (some ⟨g, 0, none⟩)] 59)).alloc (by simp) (.cells #[.slice x.regs.A x.regs.l.length x.regs.c, .slice x.procs.A x.procs.l.length x.procs.c, .slice x.ports.A x.ports.l.length x.ports.c, .slice x.sems.A x.sems.l.length x.sems.c, .int .i64 x.flags, .slice x.pools.A x.pools.l.length x.pools.c, .slice x.slates.A x.slates.l.length x.slates.c, .int .i64 x.cap, .int .i64 x.bud, .int .i64 x.lad, .slice x.acts.A x.acts.l.length x.acts.c] 55)
  have kp0 := (Blk.new W 59 #[.pointer (some ⟨g, 0, none⟩)]).alloc (.cells #[.slice x.regs.A x.regs.l.length x.regs.c, .slice x.procs.A x.procs.l.length x.procs.c, .slice x.ports.A x.ports.l.length x.ports.c, .slice x.sems.A x.sems.l.length x.sems.c, .int .i64 x.flags, .slice x.pools.A x.pools.l.length x.pools.c, .slice x.slates.A x.slates.l.length x.slates.c, .int .i64 x.cap, .int .i64 x.bud, .int .i64 x.lad, .slice x.acts.A x.acts.l.length x.acts.c] 55)
  have kx0 := Blk.new (W.alloc (.cells #[.pointer (some ⟨g, 0, none⟩)] 59)) 55 #[.slice x.regs.A x.regs.l.length x.regs.c, .slice x.procs.A x.procs.l.length x.procs.c, .slice x.ports.A x.ports.l.length x.ports.c, .slice x.sems.A x.sems.l.length x.sems.c, .int .i64 x.flags, .slice x.pools.A x.pools.l.length x.pools.c, .slice x.slates.A x.slates.l.length x.slates.c, .int .i64 x.cap, .int .i64 x.bud, .int .i64 x.lad, .slice x.acts.A x.acts.l.length x.acts.c]
  rw [World.size_alloc] at kx0
  have hw0 := hw.keep hbl
  have hB0 := hB.trans (hbl.mono hB.size)
  have np0 : ¬ T W.heap.size := fun h => by have := hw.bnd _ h; omega
  have nx0 : ¬ T (W.heap.size + 1) := fun h => by have := hw.bnd _ h; omega
  have F0 := Fr.of_below hbl T
  have G0 : Grw T T W ((W.alloc (.cells #[.pointer (some ⟨g, 0, none⟩)] 59)).alloc (.cells #[.slice x.regs.A x.regs.l.length x.regs.c, .slice x.procs.A x.procs.l.length x.procs.c, .slice x.ports.A x.ports.l.length x.ports.c, .slice x.sems.A x.sems.l.length x.sems.c, .int .i64 x.flags, .slice x.pools.A x.pools.l.length x.pools.c, .slice x.slates.A x.slates.l.length x.slates.c, .int .i64 x.cap, .int .i64 x.bud, .int .i64 x.lad, .slice x.acts.A x.acts.l.length x.acts.c] 55)) := fun b hb => ⟨.inl hb, Nat.lt_of_lt_of_le (hw.bnd b hb) hbl.size⟩
  obtain ⟨hs1, hs2, hs3, hs4, hs5, hs6, hs7⟩ := hsh
  have i4 : i64 x.flags := hx.2.2.2.2.1
  have i7 : i64 x.cap := hx.2.2.2.2.2.2.2.1
  have i8 : i64 x.bud := hx.2.2.2.2.2.2.2.2.1
  have i9 : i64 x.lad := hx.2.2.2.2.2.2.2.2.2.1
  go_enter Tryz.func16, Tryz.ntmps16
  go_upto_region 1 with fail
  generalize (W.alloc (.cells #[.pointer (some ⟨g, 0, none⟩)] 59)).alloc (.cells #[.slice x.regs.A x.regs.l.length x.regs.c, .slice x.procs.A x.procs.l.length x.procs.c, .slice x.ports.A x.ports.l.length x.ports.c, .slice x.sems.A x.sems.l.length x.sems.c, .int .i64 x.flags, .slice x.pools.A x.pools.l.length x.pools.c, .slice x.slates.A x.slates.l.length x.slates.c, .int .i64 x.cap, .int .i64 x.bud, .int .i64 x.lad, .slice x.acts.A x.acts.l.length x.acts.c] 55) = W0 at kx0 kp0 hw0 hB0 F0 G0 ⊢
  generalize hbx : W.heap.size + 1 = bx at kx0 nx0 ⊢
  generalize hpb : W.heap.size = pb at kp0 np0 hbl ⊢
  clear hbx hpb hbl hw hB
  have p0 : W0.cell? ⟨pb, 0, none⟩ = some (.pointer (some ⟨g, 0, none⟩)) := kp0.cell 0
  have lp0 := kp0.lt
  have lx0 := kx0.lt
  have lg0 := hw0.lt
  have c0 : W0.cell? ⟨bx, 0, none⟩ = some (.slice x.regs.A x.regs.l.length x.regs.c) := kx0.cell 0
  go_wp2_with fail
  refine (list_Rg (N := 60000000) (M := 23) (enc := encRg) (bad := noB) hx.1 hs1 (fun y hy => one_Rg y (hx.1.2 y hy)) (fun y hy => encRg_len y) (by omega) (cap_stq g pb) ⟨kp0, np0⟩ hw0 hB0 (by (try simp only [List.length_append]); omega)).mono ?_
  rintro e W1 ⟨rfl, T1, hw1, hf1, hg1⟩
  have il0 : (lst encRg x.regs.l).length ≤ 2311 := lst_len encRg _ (fun y hy => encRg_len y) hs1
  replace hw1 : WrC W1 wa.heap.size g T1 (l ++ lst encRg x.regs.l) (lg || badL noB x.regs.l) := hw1
  have kp1 := kp0.fr hf1 np0
  have kx1 := kx0.fr hf1 nx0
  have np1 := grw_no hg1 lp0 np0
  have nx1 := grw_no hg1 lx0 nx0
  have hB1 := hB0.trans (hf1.below (fun b hb h => by have := hw0.lo b h; omega) hB0.size)
  have F1 : Fr T W W1 := F0.grw G0 hf1
  have G1 : Grw T T1 W W1 := G0.trans F0.size hg1
  clear p0 lp0 lx0 lg0 hf1 hg1 kp0 kx0 np0 nx0 F0 G0 hw0 c0
  have p0 : W1.cell? ⟨pb, 0, none⟩ = some (.pointer (some ⟨g, 0, none⟩)) := kp1.cell 0
  have lp1 := kp1.lt
  have lx1 := kx1.lt
  have lg1 := hw1.lt
  have c1 : W1.cell? ⟨bx, 1, none⟩ = some (.slice x.procs.A x.procs.l.length x.procs.c) := kx1.cell 1
  go_wp2_with fail
  refine (list_Pc (N := 60000000) (M := 33) (enc := encPc) (bad := noB) hx.2.1 hs2 (fun y hy => one_Pc y (hx.2.1.2 y hy)) (fun y hy => encPc_len y) (by omega) (cap_stq g pb) ⟨kp1, np1⟩ hw1 hB1 (by (try simp only [List.length_append]); omega)).mono ?_
  rintro e W2 ⟨rfl, T2, hw2, hf2, hg2⟩
  have il1 : (lst encPc x.procs.l).length ≤ 3311 := lst_len encPc _ (fun y hy => encPc_len y) hs2
  replace hw2 : WrC W2 wa.heap.size g T2 ((l ++ lst encRg x.regs.l) ++ lst encPc x.procs.l) ((lg || badL noB x.regs.l) || badL noB x.procs.l) := hw2
  have kp2 := kp1.fr hf2 np1
  have kx2 := kx1.fr hf2 nx1
  have np2 := grw_no hg2 lp1 np1
  have nx2 := grw_no hg2 lx1 nx1
  have hB2 := hB1.trans (hf2.below (fun b hb h => by have := hw1.lo b h; omega) hB1.size)
  have F2 : Fr T W W2 := F1.grw G1 hf2
  have G2 : Grw T T2 W W2 := G1.trans F1.size hg2
  clear p0 lp1 lx1 lg1 hf2 hg2 kp1 kx1 np1 nx1 F1 G1 hw1 c1
  have p0 : W2.cell? ⟨pb, 0, none⟩ = some (.pointer (some ⟨g, 0, none⟩)) := kp2.cell 0
  have lp2 := kp2.lt
  have lx2 := kx2.lt
  have lg2 := hw2.lt
  have c2 : W2.cell? ⟨bx, 2, none⟩ = some (.slice x.ports.A x.ports.l.length x.ports.c) := kx2.cell 2
  go_wp2_with fail
  refine (list_Po (N := 60000000) (M := 24) (enc := encPo) (bad := noB) hx.2.2.1 hs3 (fun y hy => one_Po y (hx.2.2.1.2 y hy)) (fun y hy => encPo_len y) (by omega) (cap_stq g pb) ⟨kp2, np2⟩ hw2 hB2 (by (try simp only [List.length_append]); omega)).mono ?_
  rintro e W3 ⟨rfl, T3, hw3, hf3, hg3⟩
  have il2 : (lst encPo x.ports.l).length ≤ 2411 := lst_len encPo _ (fun y hy => encPo_len y) hs3
  replace hw3 : WrC W3 wa.heap.size g T3 (((l ++ lst encRg x.regs.l) ++ lst encPc x.procs.l) ++ lst encPo x.ports.l) (((lg || badL noB x.regs.l) || badL noB x.procs.l) || badL noB x.ports.l) := hw3
  have kp3 := kp2.fr hf3 np2
  have kx3 := kx2.fr hf3 nx2
  have np3 := grw_no hg3 lp2 np2
  have nx3 := grw_no hg3 lx2 nx2
  have hB3 := hB2.trans (hf3.below (fun b hb h => by have := hw2.lo b h; omega) hB2.size)
  have F3 : Fr T W W3 := F2.grw G2 hf3
  have G3 : Grw T T3 W W3 := G2.trans F2.size hg3
  clear p0 lp2 lx2 lg2 hf3 hg3 kp2 kx2 np2 nx2 F2 G2 hw2 c2
  have p0 : W3.cell? ⟨pb, 0, none⟩ = some (.pointer (some ⟨g, 0, none⟩)) := kp3.cell 0
  have lp3 := kp3.lt
  have lx3 := kx3.lt
  have lg3 := hw3.lt
  have c3 : W3.cell? ⟨bx, 3, none⟩ = some (.slice x.sems.A x.sems.l.length x.sems.c) := kx3.cell 3
  go_wp2_with fail
  refine (list_Sm (N := 60000000) (M := 22) (enc := encSm) (bad := noB) hx.2.2.2.1 hs4 (fun y hy => one_Sm y (hx.2.2.2.1.2 y hy)) (fun y hy => encSm_len y) (by omega) (cap_stq g pb) ⟨kp3, np3⟩ hw3 hB3 (by (try simp only [List.length_append]); omega)).mono ?_
  rintro e W4 ⟨rfl, T4, hw4, hf4, hg4⟩
  have il3 : (lst encSm x.sems.l).length ≤ 2211 := lst_len encSm _ (fun y hy => encSm_len y) hs4
  replace hw4 : WrC W4 wa.heap.size g T4 ((((l ++ lst encRg x.regs.l) ++ lst encPc x.procs.l) ++ lst encPo x.ports.l) ++ lst encSm x.sems.l) ((((lg || badL noB x.regs.l) || badL noB x.procs.l) || badL noB x.ports.l) || badL noB x.sems.l) := hw4
  have kp4 := kp3.fr hf4 np3
  have kx4 := kx3.fr hf4 nx3
  have np4 := grw_no hg4 lp3 np3
  have nx4 := grw_no hg4 lx3 nx3
  have hB4 := hB3.trans (hf4.below (fun b hb h => by have := hw3.lo b h; omega) hB3.size)
  have F4 : Fr T W W4 := F3.grw G3 hf4
  have G4 : Grw T T4 W W4 := G3.trans F3.size hg4
  clear p0 lp3 lx3 lg3 hf4 hg4 kp3 kx3 np3 nx3 F3 G3 hw3 c3
  have p0 : W4.cell? ⟨pb, 0, none⟩ = some (.pointer (some ⟨g, 0, none⟩)) := kp4.cell 0
  have lp4 := kp4.lt
  have lx4 := kx4.lt
  have lg4 := hw4.lt
  have c4 : W4.cell? ⟨bx, 4, none⟩ = some (.int .i64 x.flags) := kx4.cell 4
  go_wp2_with fail
  refine wp_region_fen (fun _ => False) [(5, 2)] (by kernel_rfl) (by kernel_rfl) ?_
  simp only [wpSegsF, List.take, List.drop]
  repeat (go_big_quiet_step (fail))
  refine wpQuiet_nil (wpHeadF_bar rfl (fun K' hK' => ?_))
  go_wp2_with fail
  refine (writeIntC_any (hw4.keep (Below.drew (Below.refl _ _))) hB4.size (by (try simp only [List.length_append]); omega) (show i64 x.flags by assumption)).mono ?_
  rintro e W5 ⟨rfl, T5, hw5, hf5, hg5⟩
  replace hf5 : Fr T4 W4 W5 := (Fr.of_below (Below.drew (Below.refl _ W4)) T4).trans hf5
  refine hK' _ _ (fun _ => False) rfl ?_
  clear hK' K'
  try simp only [wpSegsF]
  repeat (go_big_quiet_step (fail))
  refine wpQuiet_nil ?_
  have il4 : (vint x.flags).length ≤ 11 := vint_le _
  have kp5 := kp4.fr hf5 np4
  have kx5 := kx4.fr hf5 nx4
  have np5 := grw_no hg5 lp4 np4
  have nx5 := grw_no hg5 lx4 nx4
  have hB5 := hB4.trans (hf5.below (fun b hb h => by have := hw4.lo b h; omega) hB4.size)
  have F5 : Fr T W W5 := F4.grw G4 hf5
  have G5 : Grw T T5 W W5 := G4.trans F4.size hg5
  clear p0 lp4 lx4 lg4 hf5 hg5 kp4 kx4 np4 nx4 F4 G4 hw4 c4
  have p0 : W5.cell? ⟨pb, 0, none⟩ = some (.pointer (some ⟨g, 0, none⟩)) := kp5.cell 0
  have lp5 := kp5.lt
  have lx5 := kx5.lt
  have lg5 := hw5.lt
  have c5 : W5.cell? ⟨bx, 5, none⟩ = some (.slice x.pools.A x.pools.l.length x.pools.c) := kx5.cell 5
  go_wp2_with fail
  refine (list_Pl (N := 60000000) (M := 22) (enc := encPl) (bad := noB) hx.2.2.2.2.2.1 hs5 (fun y hy => one_Pl y (hx.2.2.2.2.2.1.2 y hy)) (fun y hy => encPl_len y) (by omega) (cap_stq g pb) ⟨kp5, np5⟩ hw5 hB5 (by (try simp only [List.length_append]); omega)).mono ?_
  rintro e W6 ⟨rfl, T6, hw6, hf6, hg6⟩
  have il5 : (lst encPl x.pools.l).length ≤ 2211 := lst_len encPl _ (fun y hy => encPl_len y) hs5
  replace hw6 : WrC W6 wa.heap.size g T6 ((((((l ++ lst encRg x.regs.l) ++ lst encPc x.procs.l) ++ lst encPo x.ports.l) ++ lst encSm x.sems.l) ++ vint x.flags) ++ lst encPl x.pools.l) (((((lg || badL noB x.regs.l) || badL noB x.procs.l) || badL noB x.ports.l) || badL noB x.sems.l) || badL noB x.pools.l) := hw6
  have kp6 := kp5.fr hf6 np5
  have kx6 := kx5.fr hf6 nx5
  have np6 := grw_no hg6 lp5 np5
  have nx6 := grw_no hg6 lx5 nx5
  have hB6 := hB5.trans (hf6.below (fun b hb h => by have := hw5.lo b h; omega) hB5.size)
  have F6 : Fr T W W6 := F5.grw G5 hf6
  have G6 : Grw T T6 W W6 := G5.trans F5.size hg6
  clear p0 lp5 lx5 lg5 hf6 hg6 kp5 kx5 np5 nx5 F5 G5 hw5 c5
  have p0 : W6.cell? ⟨pb, 0, none⟩ = some (.pointer (some ⟨g, 0, none⟩)) := kp6.cell 0
  have lp6 := kp6.lt
  have lx6 := kx6.lt
  have lg6 := hw6.lt
  have c6 : W6.cell? ⟨bx, 6, none⟩ = some (.slice x.slates.A x.slates.l.length x.slates.c) := kx6.cell 6
  go_wp2_with fail
  refine (numbersC_any hx.2.2.2.2.2.2.1 hs6 hw6 hB6 (by (try simp only [List.length_append]); omega)).mono ?_
  rintro e W7 ⟨rfl, T7, hw7, hf7, hg7⟩
  have il6 : (lst vint x.slates.l).length ≤ 1111 := lst_len vint _ (fun y _ => vint_le y) hs6
  have kp7 := kp6.fr hf7 np6
  have kx7 := kx6.fr hf7 nx6
  have np7 := grw_no hg7 lp6 np6
  have nx7 := grw_no hg7 lx6 nx6
  have hB7 := hB6.trans (hf7.below (fun b hb h => by have := hw6.lo b h; omega) hB6.size)
  have F7 : Fr T W W7 := F6.grw G6 hf7
  have G7 : Grw T T7 W W7 := G6.trans F6.size hg7
  clear p0 lp6 lx6 lg6 hf7 hg7 kp6 kx6 np6 nx6 F6 G6 hw6 c6
  have p0 : W7.cell? ⟨pb, 0, none⟩ = some (.pointer (some ⟨g, 0, none⟩)) := kp7.cell 0
  have lp7 := kp7.lt
  have lx7 := kx7.lt
  have lg7 := hw7.lt
  have c7 : W7.cell? ⟨bx, 7, none⟩ = some (.int .i64 x.cap) := kx7.cell 7
  have c8 : W7.cell? ⟨bx, 8, none⟩ = some (.int .i64 x.bud) := kx7.cell 8
  have c9 : W7.cell? ⟨bx, 9, none⟩ = some (.int .i64 x.lad) := kx7.cell 9
  have hbl7 := (Below.refl W7.heap.size W7).alloc (Nat.le_refl _) (.cells #[.int .i64 x.cap, .int .i64 x.bud, .int .i64 x.lad] 3)
  have hsl7 := SlI.of_blk (Blk.new W7 3 #[.int .i64 x.cap, .int .i64 x.bud, .int .i64 x.lad]) [x.cap, x.bud, x.lad] rfl (show 3 ≤ 1000000 by omega) (fun z hz => by
    simp only [List.mem_cons, List.mem_nil_iff, or_false] at hz
    rcases hz with rfl | rfl | rfl <;> assumption)
  go_wp2_with fail
  refine (intsC_any (hw7.keep hbl7) (Nat.le_trans hB7.size hbl7.size) (by (try simp only [List.length_append]); omega) hsl7 (show 3 ≤ 1000 by omega) (fun b o _ e h => by cases e; have := hw7.bnd _ h; omega)).mono ?_
  rintro e W8 ⟨rfl, T8, hw8, hf8, hg8⟩
  clear hsl7
  have il7 : (intsB [x.cap, x.bud, x.lad]).length ≤ 33 := intsB_len [x.cap, x.bud, x.lad]
  replace hf8 : Fr T7 W7 W8 := (Fr.of_below hbl7 T7).trans hf8
  replace hg8 : Grw T7 T8 W7 W8 := hg8.alloc_left hbl7.size
  have kp8 := kp7.fr hf8 np7
  have kx8 := kx7.fr hf8 nx7
  have np8 := grw_no hg8 lp7 np7
  have nx8 := grw_no hg8 lx7 nx7
  have hB8 := hB7.trans (hf8.below (fun b hb h => by have := hw7.lo b h; omega) hB7.size)
  have F8 : Fr T W W8 := F7.grw G7 hf8
  have G8 : Grw T T8 W W8 := G7.trans F7.size hg8
  clear p0 lp7 lx7 lg7 hf8 hg8 kp7 kx7 np7 nx7 F7 G7 hw7 c7 c8 c9
  have p0 : W8.cell? ⟨pb, 0, none⟩ = some (.pointer (some ⟨g, 0, none⟩)) := kp8.cell 0
  have lp8 := kp8.lt
  have lx8 := kx8.lt
  have lg8 := hw8.lt
  have c10 : W8.cell? ⟨bx, 10, none⟩ = some (.slice x.acts.A x.acts.l.length x.acts.c) := kx8.cell 10
  go_wp2_with fail
  refine (numbersC_any hx.2.2.2.2.2.2.2.2.2.2 hs7 hw8 hB8 (by (try simp only [List.length_append]); omega)).mono ?_
  rintro e W9 ⟨rfl, T9, hw9, hf9, hg9⟩
  have il8 : (lst vint x.acts.l).length ≤ 1111 := lst_len vint _ (fun y _ => vint_le y) hs7
  have kp9 := kp8.fr hf9 np8
  have kx9 := kx8.fr hf9 nx8
  have np9 := grw_no hg9 lp8 np8
  have nx9 := grw_no hg9 lx8 nx8
  have hB9 := hB8.trans (hf9.below (fun b hb h => by have := hw8.lo b h; omega) hB8.size)
  have F9 : Fr T W W9 := F8.grw G8 hf9
  have G9 : Grw T T9 W W9 := G8.trans F8.size hg9
  clear p0 lp8 lx8 lg8 hf9 hg9 kp8 kx8 np8 nx8 F8 G8 hw8 c10
  go_wp2_with fail
  go_end0
  refine ⟨rfl, T9, ?_, F9, G9⟩
  unfold encPt badPt
  try simp only [← List.append_assoc]
  try simp only [← Bool.or_assoc]
  exact hw9
set_option maxRecDepth 100000 in
set_option maxHeartbeats 3200000 in
theorem one_Md {wa : World} {g : Nat} (x : Md) (hx : x.ok wa) (hsh : x.wins.l.length ≤ 100) : OneW wa g (fun _ _ => True) 21 #[.pointer (some ⟨g, 0, none⟩), .agg #[.int .i64 x.frame, .slice x.wins.A x.wins.l.length x.wins.c]] 50000000 (encMd x) (badMd x) := by
  intro T W l lg _ hw hB hl
  have hbl := ((Below.refl W.heap.size W).alloc (Nat.le_refl _) (.cells #[.pointer (some ⟨g, 0, none⟩)] 59)).alloc (by simp) (.cells #[.int .i64 x.frame, .slice x.wins.A x.wins.l.length x.wins.c] 58)
  have kp0 := (Blk.new W 59 #[.pointer (some ⟨g, 0, none⟩)]).alloc (.cells #[.int .i64 x.frame, .slice x.wins.A x.wins.l.length x.wins.c] 58)
  have kx0 := Blk.new (W.alloc (.cells #[.pointer (some ⟨g, 0, none⟩)] 59)) 58 #[.int .i64 x.frame, .slice x.wins.A x.wins.l.length x.wins.c]
  rw [World.size_alloc] at kx0
  have hw0 := hw.keep hbl
  have hB0 := hB.trans (hbl.mono hB.size)
  have np0 : ¬ T W.heap.size := fun h => by have := hw.bnd _ h; omega
  have nx0 : ¬ T (W.heap.size + 1) := fun h => by have := hw.bnd _ h; omega
  have F0 := Fr.of_below hbl T
  have G0 : Grw T T W ((W.alloc (.cells #[.pointer (some ⟨g, 0, none⟩)] 59)).alloc (.cells #[.int .i64 x.frame, .slice x.wins.A x.wins.l.length x.wins.c] 58)) := fun b hb => ⟨.inl hb, Nat.lt_of_lt_of_le (hw.bnd b hb) hbl.size⟩
  have i0 : i64 x.frame := hx.1
  go_enter Tryz.func21, Tryz.ntmps21
  go_upto_region 1 with fail
  generalize (W.alloc (.cells #[.pointer (some ⟨g, 0, none⟩)] 59)).alloc (.cells #[.int .i64 x.frame, .slice x.wins.A x.wins.l.length x.wins.c] 58) = W0 at kx0 kp0 hw0 hB0 F0 G0 ⊢
  generalize hbx : W.heap.size + 1 = bx at kx0 nx0 ⊢
  generalize hpb : W.heap.size = pb at kp0 np0 hbl ⊢
  clear hbx hpb hbl hw hB
  have p0 : W0.cell? ⟨pb, 0, none⟩ = some (.pointer (some ⟨g, 0, none⟩)) := kp0.cell 0
  have lp0 := kp0.lt
  have lx0 := kx0.lt
  have lg0 := hw0.lt
  have c0 : W0.cell? ⟨bx, 0, none⟩ = some (.int .i64 x.frame) := kx0.cell 0
  go_wp2_with fail
  refine wp_region_fen (fun _ => False) [(5, 2)] (by kernel_rfl) (by kernel_rfl) ?_
  simp only [wpSegsF, List.take, List.drop]
  repeat (go_big_quiet_step (fail))
  refine wpQuiet_nil (wpHeadF_bar rfl (fun K' hK' => ?_))
  go_wp2_with fail
  refine (writeIntC_any (hw0.keep (Below.drew (Below.refl _ _))) hB0.size (by (try simp only [List.length_append]); omega) (show i64 x.frame by assumption)).mono ?_
  rintro e W1 ⟨rfl, T1, hw1, hf1, hg1⟩
  replace hf1 : Fr T W0 W1 := (Fr.of_below (Below.drew (Below.refl _ W0)) T).trans hf1
  refine hK' _ _ (fun _ => False) rfl ?_
  clear hK' K'
  try simp only [wpSegsF]
  repeat (go_big_quiet_step (fail))
  refine wpQuiet_nil ?_
  have il0 : (vint x.frame).length ≤ 11 := vint_le _
  have kp1 := kp0.fr hf1 np0
  have kx1 := kx0.fr hf1 nx0
  have np1 := grw_no hg1 lp0 np0
  have nx1 := grw_no hg1 lx0 nx0
  have hB1 := hB0.trans (hf1.below (fun b hb h => by have := hw0.lo b h; omega) hB0.size)
  have F1 : Fr T W W1 := F0.grw G0 hf1
  have G1 : Grw T T1 W W1 := G0.trans F0.size hg1
  clear p0 lp0 lx0 lg0 hf1 hg1 kp0 kx0 np0 nx0 F0 G0 hw0 c0
  have p0 : W1.cell? ⟨pb, 0, none⟩ = some (.pointer (some ⟨g, 0, none⟩)) := kp1.cell 0
  have lp1 := kp1.lt
  have lx1 := kx1.lt
  have lg1 := hw1.lt
  have c1 : W1.cell? ⟨bx, 1, none⟩ = some (.slice x.wins.A x.wins.l.length x.wins.c) := kx1.cell 1
  go_wp2_with fail
  refine (list_Wn (N := 60000000) (M := 33) (enc := encWn) (bad := noB) hx.2 hsh (fun y hy => one_Wn y (hx.2.2 y hy)) (fun y hy => encWn_len y) (by omega) (cap_stq g pb) ⟨kp1, np1⟩ hw1 hB1 (by (try simp only [List.length_append]); omega)).mono ?_
  rintro e W2 ⟨rfl, T2, hw2, hf2, hg2⟩
  have il1 : (lst encWn x.wins.l).length ≤ 3311 := lst_len encWn _ (fun y hy => encWn_len y) hsh
  replace hw2 : WrC W2 wa.heap.size g T2 ((l ++ vint x.frame) ++ lst encWn x.wins.l) (lg || badL noB x.wins.l) := hw2
  have kp2 := kp1.fr hf2 np1
  have kx2 := kx1.fr hf2 nx1
  have np2 := grw_no hg2 lp1 np1
  have nx2 := grw_no hg2 lx1 nx1
  have hB2 := hB1.trans (hf2.below (fun b hb h => by have := hw1.lo b h; omega) hB1.size)
  have F2 : Fr T W W2 := F1.grw G1 hf2
  have G2 : Grw T T2 W W2 := G1.trans F1.size hg2
  clear p0 lp1 lx1 lg1 hf2 hg2 kp1 kx1 np1 nx1 F1 G1 hw1 c1
  go_wp2_with fail
  go_end0
  refine ⟨rfl, T2, ?_, F2, G2⟩
  unfold encMd badMd
  try simp only [← List.append_assoc]
  try simp only [← Bool.or_assoc]
  exact hw2
set_option maxRecDepth 100000 in
set_option maxHeartbeats 3200000 in
theorem one_Pw {wa : World} {g : Nat} (x : Pw) (hx : x.ok wa) (hs1 : x.levels.l.length ≤ 100) (hs2 : x.naps.l.length ≤ 100) : OneW wa g (fun _ _ => True) 22 #[.pointer (some ⟨g, 0, none⟩), .agg #[.slice x.levels.A x.levels.l.length x.levels.c, .slice x.naps.A x.naps.l.length x.naps.c, .int .i64 x.sw, .int .i64 x.idle, .int .i64 x.change, .int .i64 x.quant, .int .i64 x.slow, .int .i64 x.ppm]] 50000000 (encPw x) (badPw x) := by
  intro T W l lg _ hw hB hl
  have hbl := ((Below.refl W.heap.size W).alloc (Nat.le_refl _) (.cells #[.pointer (some ⟨g, 0, none⟩)] 59)).alloc (by simp) (.cells #[.slice x.levels.A x.levels.l.length x.levels.c, .slice x.naps.A x.naps.l.length x.naps.c, .int .i64 x.sw, .int .i64 x.idle, .int .i64 x.change, .int .i64 x.quant, .int .i64 x.slow, .int .i64 x.ppm] 28)
  have kp0 := (Blk.new W 59 #[.pointer (some ⟨g, 0, none⟩)]).alloc (.cells #[.slice x.levels.A x.levels.l.length x.levels.c, .slice x.naps.A x.naps.l.length x.naps.c, .int .i64 x.sw, .int .i64 x.idle, .int .i64 x.change, .int .i64 x.quant, .int .i64 x.slow, .int .i64 x.ppm] 28)
  have kx0 := Blk.new (W.alloc (.cells #[.pointer (some ⟨g, 0, none⟩)] 59)) 28 #[.slice x.levels.A x.levels.l.length x.levels.c, .slice x.naps.A x.naps.l.length x.naps.c, .int .i64 x.sw, .int .i64 x.idle, .int .i64 x.change, .int .i64 x.quant, .int .i64 x.slow, .int .i64 x.ppm]
  rw [World.size_alloc] at kx0
  have hw0 := hw.keep hbl
  have hB0 := hB.trans (hbl.mono hB.size)
  have np0 : ¬ T W.heap.size := fun h => by have := hw.bnd _ h; omega
  have nx0 : ¬ T (W.heap.size + 1) := fun h => by have := hw.bnd _ h; omega
  have F0 := Fr.of_below hbl T
  have G0 : Grw T T W ((W.alloc (.cells #[.pointer (some ⟨g, 0, none⟩)] 59)).alloc (.cells #[.slice x.levels.A x.levels.l.length x.levels.c, .slice x.naps.A x.naps.l.length x.naps.c, .int .i64 x.sw, .int .i64 x.idle, .int .i64 x.change, .int .i64 x.quant, .int .i64 x.slow, .int .i64 x.ppm] 28)) := fun b hb => ⟨.inl hb, Nat.lt_of_lt_of_le (hw.bnd b hb) hbl.size⟩
  have i2 : i64 x.sw := hx.2.2.1
  have i3 : i64 x.idle := hx.2.2.2.1
  have i4 : i64 x.change := hx.2.2.2.2.1
  have i5 : i64 x.quant := hx.2.2.2.2.2.1
  have i6 : i64 x.slow := hx.2.2.2.2.2.2.1
  have i7 : i64 x.ppm := hx.2.2.2.2.2.2.2
  go_enter Tryz.func22, Tryz.ntmps22
  go_upto_region 1 with fail
  generalize (W.alloc (.cells #[.pointer (some ⟨g, 0, none⟩)] 59)).alloc (.cells #[.slice x.levels.A x.levels.l.length x.levels.c, .slice x.naps.A x.naps.l.length x.naps.c, .int .i64 x.sw, .int .i64 x.idle, .int .i64 x.change, .int .i64 x.quant, .int .i64 x.slow, .int .i64 x.ppm] 28) = W0 at kx0 kp0 hw0 hB0 F0 G0 ⊢
  generalize hbx : W.heap.size + 1 = bx at kx0 nx0 ⊢
  generalize hpb : W.heap.size = pb at kp0 np0 hbl ⊢
  clear hbx hpb hbl hw hB
  have p0 : W0.cell? ⟨pb, 0, none⟩ = some (.pointer (some ⟨g, 0, none⟩)) := kp0.cell 0
  have lp0 := kp0.lt
  have lx0 := kx0.lt
  have lg0 := hw0.lt
  have c0 : W0.cell? ⟨bx, 0, none⟩ = some (.slice x.levels.A x.levels.l.length x.levels.c) := kx0.cell 0
  go_wp2_with fail
  refine (list_Lv (N := 60000000) (M := 22) (enc := encLv) (bad := noB) hx.1 hs1 (fun y hy => one_Lv y (hx.1.2 y hy)) (fun y hy => encLv_len y) (by omega) (cap_stq g pb) ⟨kp0, np0⟩ hw0 hB0 (by (try simp only [List.length_append]); omega)).mono ?_
  rintro e W1 ⟨rfl, T1, hw1, hf1, hg1⟩
  have il0 : (lst encLv x.levels.l).length ≤ 2211 := lst_len encLv _ (fun y hy => encLv_len y) hs1
  replace hw1 : WrC W1 wa.heap.size g T1 (l ++ lst encLv x.levels.l) (lg || badL noB x.levels.l) := hw1
  have kp1 := kp0.fr hf1 np0
  have kx1 := kx0.fr hf1 nx0
  have np1 := grw_no hg1 lp0 np0
  have nx1 := grw_no hg1 lx0 nx0
  have hB1 := hB0.trans (hf1.below (fun b hb h => by have := hw0.lo b h; omega) hB0.size)
  have F1 : Fr T W W1 := F0.grw G0 hf1
  have G1 : Grw T T1 W W1 := G0.trans F0.size hg1
  clear p0 lp0 lx0 lg0 hf1 hg1 kp0 kx0 np0 nx0 F0 G0 hw0 c0
  have p0 : W1.cell? ⟨pb, 0, none⟩ = some (.pointer (some ⟨g, 0, none⟩)) := kp1.cell 0
  have lp1 := kp1.lt
  have lx1 := kx1.lt
  have lg1 := hw1.lt
  have c1 : W1.cell? ⟨bx, 1, none⟩ = some (.slice x.naps.A x.naps.l.length x.naps.c) := kx1.cell 1
  go_wp2_with fail
  refine (list_Np (N := 60000000) (M := 33) (enc := encNp) (bad := noB) hx.2.1 hs2 (fun y hy => one_Np y (hx.2.1.2 y hy)) (fun y hy => encNp_len y) (by omega) (cap_stq g pb) ⟨kp1, np1⟩ hw1 hB1 (by (try simp only [List.length_append]); omega)).mono ?_
  rintro e W2 ⟨rfl, T2, hw2, hf2, hg2⟩
  have il1 : (lst encNp x.naps.l).length ≤ 3311 := lst_len encNp _ (fun y hy => encNp_len y) hs2
  replace hw2 : WrC W2 wa.heap.size g T2 ((l ++ lst encLv x.levels.l) ++ lst encNp x.naps.l) ((lg || badL noB x.levels.l) || badL noB x.naps.l) := hw2
  have kp2 := kp1.fr hf2 np1
  have kx2 := kx1.fr hf2 nx1
  have np2 := grw_no hg2 lp1 np1
  have nx2 := grw_no hg2 lx1 nx1
  have hB2 := hB1.trans (hf2.below (fun b hb h => by have := hw1.lo b h; omega) hB1.size)
  have F2 : Fr T W W2 := F1.grw G1 hf2
  have G2 : Grw T T2 W W2 := G1.trans F1.size hg2
  clear p0 lp1 lx1 lg1 hf2 hg2 kp1 kx1 np1 nx1 F1 G1 hw1 c1
  have p0 : W2.cell? ⟨pb, 0, none⟩ = some (.pointer (some ⟨g, 0, none⟩)) := kp2.cell 0
  have lp2 := kp2.lt
  have lx2 := kx2.lt
  have lg2 := hw2.lt
  have c2 : W2.cell? ⟨bx, 2, none⟩ = some (.int .i64 x.sw) := kx2.cell 2
  have c3 : W2.cell? ⟨bx, 3, none⟩ = some (.int .i64 x.idle) := kx2.cell 3
  have c4 : W2.cell? ⟨bx, 4, none⟩ = some (.int .i64 x.change) := kx2.cell 4
  have c5 : W2.cell? ⟨bx, 5, none⟩ = some (.int .i64 x.quant) := kx2.cell 5
  have c6 : W2.cell? ⟨bx, 6, none⟩ = some (.int .i64 x.slow) := kx2.cell 6
  have c7 : W2.cell? ⟨bx, 7, none⟩ = some (.int .i64 x.ppm) := kx2.cell 7
  have hbl2 := (Below.refl W2.heap.size W2).alloc (Nat.le_refl _) (.cells #[.int .i64 x.sw, .int .i64 x.idle, .int .i64 x.change, .int .i64 x.quant, .int .i64 x.slow, .int .i64 x.ppm] 3)
  have hsl2 := SlI.of_blk (Blk.new W2 3 #[.int .i64 x.sw, .int .i64 x.idle, .int .i64 x.change, .int .i64 x.quant, .int .i64 x.slow, .int .i64 x.ppm]) [x.sw, x.idle, x.change, x.quant, x.slow, x.ppm] rfl (show 6 ≤ 1000000 by omega) (fun z hz => by
    simp only [List.mem_cons, List.mem_nil_iff, or_false] at hz
    rcases hz with rfl | rfl | rfl | rfl | rfl | rfl <;> assumption)
  go_wp2_with fail
  refine (intsC_any (hw2.keep hbl2) (Nat.le_trans hB2.size hbl2.size) (by (try simp only [List.length_append]); omega) hsl2 (show 6 ≤ 1000 by omega) (fun b o _ e h => by cases e; have := hw2.bnd _ h; omega)).mono ?_
  rintro e W3 ⟨rfl, T3, hw3, hf3, hg3⟩
  clear hsl2
  have il2 : (intsB [x.sw, x.idle, x.change, x.quant, x.slow, x.ppm]).length ≤ 66 := intsB_len [x.sw, x.idle, x.change, x.quant, x.slow, x.ppm]
  replace hf3 : Fr T2 W2 W3 := (Fr.of_below hbl2 T2).trans hf3
  replace hg3 : Grw T2 T3 W2 W3 := hg3.alloc_left hbl2.size
  have kp3 := kp2.fr hf3 np2
  have kx3 := kx2.fr hf3 nx2
  have np3 := grw_no hg3 lp2 np2
  have nx3 := grw_no hg3 lx2 nx2
  have hB3 := hB2.trans (hf3.below (fun b hb h => by have := hw2.lo b h; omega) hB2.size)
  have F3 : Fr T W W3 := F2.grw G2 hf3
  have G3 : Grw T T3 W W3 := G2.trans F2.size hg3
  clear p0 lp2 lx2 lg2 hf3 hg3 kp2 kx2 np2 nx2 F2 G2 hw2 c2 c3 c4 c5 c6 c7
  go_wp2_with fail
  go_end0
  refine ⟨rfl, T3, ?_, F3, G3⟩
  unfold encPw badPw
  try simp only [← List.append_assoc]
  try simp only [← Bool.or_assoc]
  exact hw3
end Go.Proofs.YtahjnonkhbpnpaaGreat
