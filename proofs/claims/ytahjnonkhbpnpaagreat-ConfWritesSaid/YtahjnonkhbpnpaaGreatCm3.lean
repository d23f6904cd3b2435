/- Words and walks for the claims of this seat, merged: CwList0, CwList1. -/
import Derived.Test.YtahjnonkhbpnpaaGreatCm1
import Derived.Test.YtahjnonkhbpnpaaGreatCm2
/- conf's lists, written: Region, ProcConf, PortConf, SemConf. Printed by wip/gen_cwlist.py. -/
namespace Go.Proofs.YtahjnonkhbpnpaaGreat
open Go.RowKit
set_option maxRecDepth 100000 in
theorem list1_Rg {wa : World} {g p po : Nat} {Q : (Nat → Prop) → World → Prop} {enc : List UInt8} {bad : Bool} (x : Rg) {N : Nat} (hone : OneW wa g Q 58 #[.agg #[.int .i64 x.base, .int .i64 x.size, .bool x.wr], .pointer (some ⟨p, 0, none⟩)] N enc bad) {T : Nat → Prop} {W : World} {l : List UInt8} {lg : Bool}
    (hQ : Stq Q) (hq : Q T W) (hw : WrC W wa.heap.size g T l lg) (hB : Below wa.heap.size wa W) (hl : l.length ≤ N) (ho : Blk W po 126 #[.func (.func 58) #[] #[.pointer (some ⟨p, 0, none⟩)]]) :
    Calls Tryz.prog 115 #[.pointer (some ⟨g, 0, none⟩), .agg #[.int .i64 x.base, .int .i64 x.size, .bool x.wr], .pointer (some ⟨po, 0, none⟩)] W (Wro W wa.heap.size g T (l ++ enc) (lg || bad)) := by
  have hb1 := (Below.refl W.heap.size W).alloc (Nat.le_refl _) (.cells #[.int .i64 x.base, .int .i64 x.size, .bool x.wr] 124)
  have k1 := Blk.new W 124 #[.int .i64 x.base, .int .i64 x.size, .bool x.wr]
  have hw1 := hw.keep hb1
  have ho1 := ho.keep hb1
  have hq1 := hQ T T _ _ hq (Fr.of_below hb1 T) (fun b hb => ⟨.inl hb, Nat.lt_of_lt_of_le (hw.bnd b hb) hb1.size⟩)
  have hB1 := hB.trans (hb1.mono hB.size)
  go_enter Tryz.func115, Tryz.ntmps115
  go_upto_region 1 with fail
  generalize W.alloc (.cells #[.int .i64 x.base, .int .i64 x.size, .bool x.wr] 124) = W1 at hb1 k1 hw1 ho1 hq1 hB1 ⊢
  have c0 : W1.cell? ⟨W.heap.size, 0, none⟩ = some (.int .i64 x.base) := k1.cell 0
  have c1 : W1.cell? ⟨W.heap.size, 1, none⟩ = some (.int .i64 x.size) := k1.cell 1
  have c2 : W1.cell? ⟨W.heap.size, 2, none⟩ = some (.bool x.wr) := k1.cell 2
  have hl1 := k1.lt
  have hlo := ho1.lt
  have o0 : W1.cell? ⟨po, 0, none⟩ = some (.func (.func 58) #[] #[.pointer (some ⟨p, 0, none⟩)]) := ho1.cell 0
  go_wp2_with fail
  refine (hone T W1 l lg hq1 hw1 hB1 hl).mono ?_
  rintro e W2 ⟨rfl, h2⟩
  go_wp2_with fail
  go_end0
  exact Wro.below ⟨rfl, h2⟩ hb1
theorem any_snocRg {bad : Rg → Bool} {l : List Rg} {k : Nat} (h : k < l.length) (lg : Bool) : (lg || (l.take k).any bad || bad (atD Rg0 l k)) = (lg || (l.take (k + 1)).any bad) := by
  rw [take_snocG Rg0 l k h]
  simp [Bool.or_assoc]
set_option maxRecDepth 100000 in
theorem put_Rg {wa : World} {g p po : Nat} {Q : (Nat → Prop) → World → Prop} {enc : Rg → List UInt8} {bad : Rg → Bool} {h : Hd Rg} {N M : Nat} (hh : rdRgs.ok wa h) (hn : h.l.length ≤ 100) (hone : ∀ x ∈ h.l, OneW wa g Q 58 #[.agg #[.int .i64 x.base, .int .i64 x.size, .bool x.wr], .pointer (some ⟨p, 0, none⟩)] N (enc x) (bad x))
    (hM : ∀ x ∈ h.l, (enc x).length ≤ M) (hN : N ≤ 60000000) {T : Nat → Prop} {W : World} {l : List UInt8} {lg : Bool}
    (hQ : Stq Q) (hq : Q T W) (hw : WrC W wa.heap.size g T l lg) (hB : Below wa.heap.size wa W) (hl : l.length + 11 + 100 * M ≤ N) (ho : Blk W po 126 #[.func (.func 58) #[] #[.pointer (some ⟨p, 0, none⟩)]]) (hpo : ¬ T po) :
    Calls Tryz.prog 114 #[.pointer (some ⟨g, 0, none⟩), .slice h.A h.l.length h.c, .func (.func 115) #[] #[.pointer (some ⟨po, 0, none⟩)]] W (Wro W wa.heap.size g T (l ++ (vint h.l.length ++ h.l.flatMap enc)) (lg || h.l.any bad)) := by
  have hgl := hw.lt
  have hBs := hB.size
  obtain ⟨A, c, hl0⟩ := h
  simp only at hh hn hone hM ⊢
  have hvl := vint_len (hl0.length : Int)
  go_enter Tryz.func114, Tryz.ntmps114
  go_wp2_with fail
  refine (writeIntC_any hw hBs (by omega) (n := (hl0.length : Int)) (by unfold i64; omega)).mono ?_
  rintro e w2 ⟨rfl, T2, h2, hf2, hg2⟩
  go_wp2_with fail
  go_loopw [16] (fun i wr => ∃ (k : Nat) (T' : Nat → Prop), k ≤ hl0.length ∧ i = .int .i64 (k : Int) ∧ WrC wr wa.heap.size g T' ((l ++ vint hl0.length) ++ (hl0.take k).flatMap enc) (lg || (hl0.take k).any bad) ∧ Fr T W wr ∧ Grw T T' W wr) (fun i _ => hl0.length - (intOf i).toNat)
  case atStart => exact ⟨0, T2, Nat.zero_le _, rfl, by simpa using h2, hf2, hg2⟩
  case round =>
    obtain ⟨k, T', hk, rfl, hwr, hfr, hgr⟩ := hrel
    have hqr := hQ _ _ _ _ hq hfr hgr
    have hBr := hB.trans (hfr.below (fun b hb h => by have := hw.lo b h; omega) hBs)
    have hor := ho.fr hfr hpo
    by_cases hlt : k < hl0.length
    · have hT1 := Lib.hid (any_snocRg (bad := bad) hlt lg)
      have hT2 : Hid ((hl0.take (k + 1)).flatMap enc = (hl0.take k).flatMap enc ++ enc (atD Rg0 hl0 k)) := by
        unfold Hid
        rw [take_snocG Rg0 hl0 k hlt, List.flatMap_append]
        simp
      have hfl : ((hl0.take k).flatMap enc).length ≤ k * M := flat_le enc _ (fun x hx => hM x (List.mem_of_mem_take hx)) k (by rw [List.length_take]; omega)
      have hkM : k * M ≤ 100 * M := Nat.mul_le_mul_right M (by omega)
      have honek := hone _ (atD_mem (d := Rg0) hlt)
      obtain ⟨eb, eo, rfl, heb, hec⟩ := (rdRgs.keep hh hBr).1.at_ Rg0 hlt
      have x0 : wr.cell? ⟨eb, eo + k * 3, none⟩ = some (.int .i64 (atD Rg0 hl0 k).base) := hec 0 _ rfl
      have x1 : wr.cell? ⟨eb, eo + k * 3 + 1, none⟩ = some (.int .i64 (atD Rg0 hl0 k).size) := hec 1 _ rfl
      have x2 : wr.cell? ⟨eb, eo + k * 3 + 2, none⟩ = some (.bool (atD Rg0 hl0 k).wr) := hec 2 _ rfl
      clear hec
      generalize atD Rg0 hl0 k = x at x0 x1 x2 hT1 hT2 honek
      have hb3 := (Below.refl wr.heap.size wr).alloc (Nat.le_refl _) (.cells #[.int .i64 x.base, .int .i64 x.size, .bool x.wr] 124)
      have k3 := Blk.new wr 124 #[.int .i64 x.base, .int .i64 x.size, .bool x.wr]
      go_upto_region 5 with fail
      generalize wr.alloc (.cells #[.int .i64 x.base, .int .i64 x.size, .bool x.wr] 124) = w3 at hb3 k3 ⊢
      have hw3 := hwr.keep hb3
      have ho3 := hor.keep hb3
      have hq3 := hQ T' T' _ _ hqr (Fr.of_below hb3 T') (fun b hb => ⟨.inl hb, Nat.lt_of_lt_of_le (hwr.bnd b hb) hb3.size⟩)
      have hB3 := hBr.trans (hb3.mono hBr.size)
      have y0 : w3.cell? ⟨wr.heap.size, 0, none⟩ = some (.int .i64 x.base) := k3.cell 0
      have y1 : w3.cell? ⟨wr.heap.size, 1, none⟩ = some (.int .i64 x.size) := k3.cell 1
      have y2 : w3.cell? ⟨wr.heap.size, 2, none⟩ = some (.bool x.wr) := k3.cell 2
      have hl3 := k3.lt
      clear x0 x1 x2
      go_wp2_with fail
      refine (list1_Rg (po := po) x honek hQ hq3 hw3 hB3 (by simp only [List.length_append]; omega) ho3).mono ?_
      rintro e w4 ⟨rfl, T4, h4, hf4, hg4⟩
      go_wp2_with fail
      refine ⟨⟨k + 1, T4, by omega, by go_num, ?_, hfr.grw hgr ((Fr.of_below hb3 T').trans hf4), hgr.trans hfr.size (hg4.alloc_left hb3.size)⟩, by simp [intOf]; omega⟩
      rw [hT2.out, ← hT1.out, ← List.append_assoc]
      exact h4
    · obtain rfl : k = hl0.length := by omega
      have HT : Hid (hl0.take hl0.length = hl0) := List.take_length
      rw [HT.out, List.append_assoc] at hwr
      go_wp2_with fail
      go_end0
      exact ⟨rfl, T', hwr, hfr, hgr⟩
set_option maxRecDepth 100000 in
theorem list_Rg {wa : World} {g p : Nat} {Q : (Nat → Prop) → World → Prop} {enc : Rg → List UInt8} {bad : Rg → Bool} {h : Hd Rg} {N M : Nat} (hh : rdRgs.ok wa h) (hn : h.l.length ≤ 100) (hone : ∀ x ∈ h.l, OneW wa g Q 58 #[.agg #[.int .i64 x.base, .int .i64 x.size, .bool x.wr], .pointer (some ⟨p, 0, none⟩)] N (enc x) (bad x))
    (hM : ∀ x ∈ h.l, (enc x).length ≤ M) (hN : N ≤ 60000000) {T : Nat → Prop} {W : World} {l : List UInt8} {lg : Bool}
    (hQ : Stq Q) (hq : Q T W) (hw : WrC W wa.heap.size g T l lg) (hB : Below wa.heap.size wa W) (hl : l.length + 11 + 100 * M ≤ N) :
    Calls Tryz.prog 57 #[.pointer (some ⟨g, 0, none⟩), .slice h.A h.l.length h.c, .func (.func 58) #[] #[.pointer (some ⟨p, 0, none⟩)]] W (Wro W wa.heap.size g T (l ++ (vint h.l.length ++ h.l.flatMap enc)) (lg || (decide (64 < h.l.length) || h.l.any bad))) := by
  have hb1 := (Below.refl W.heap.size W).alloc (Nat.le_refl _) (.cells #[.func (.func 58) #[] #[.pointer (some ⟨p, 0, none⟩)]] 126)
  have k1 := Blk.new W 126 #[.func (.func 58) #[] #[.pointer (some ⟨p, 0, none⟩)]]
  have hw1 := hw.keep hb1
  have hT1 : ¬ T W.heap.size := fun h => by have := hw.bnd _ h; omega
  have hq1 := hQ T T _ _ hq (Fr.of_below hb1 T) (fun b hb => ⟨.inl hb, Nat.lt_of_lt_of_le (hw.bnd b hb) hb1.size⟩)
  have hgl := hw1.lt
  go_enter Tryz.func57, Tryz.ntmps57
  go_upto_region 1 with fail
  generalize W.alloc (.cells #[.func (.func 58) #[] #[.pointer (some ⟨p, 0, none⟩)]] 126) = W1 at hb1 k1 hw1 hq1 hgl ⊢
  have hB1 := hB.trans (hb1.mono hB.size)
  have hwg := hw1
  obtain ⟨⟨v, kb, hrow, hv⟩, h6, h7, h8⟩ := hwg
  have c1 : W1.cell? ⟨g, 1, none⟩ = some (.bool lg) := kb.cell 1
  have f1 : W1.frozen? ⟨g, 1, none⟩ = false := kb.frozen 1
  have hpg : W.heap.size ≠ g := fun h => by rw [h] at hT1; exact hT1 hw.tg
  have fin : ∀ lg2 : Bool, (lg || decide (64 < h.l.length)) = lg2 → Hid (Calls Tryz.prog 114 #[.pointer (some ⟨g, 0, none⟩), .slice h.A h.l.length h.c, .func (.func 115) #[] #[.pointer (some ⟨W.heap.size, 0, none⟩)]] (W1.setCell ⟨g, 1, none⟩ (.bool lg2)) (Wro W wa.heap.size g T (l ++ (vint h.l.length ++ h.l.flatMap enc)) (lg || (decide (64 < h.l.length) || h.l.any bad)))) := fun lg2 h2 => by
    have hwn := hw1.setLong lg2
    have hfn : Fr T W1 (W1.setCell ⟨g, 1, none⟩ (.bool lg2)) := (Fr.refl T W1).setCell (p := ⟨g, 1, none⟩) (fun _ => hw.tg) _
    have hgn : Grw T T W1 (W1.setCell ⟨g, 1, none⟩ (.bool lg2)) := fun b hb => ⟨.inl hb, hwn.bnd b hb⟩
    have hBn := hB1.trans (hfn.below (fun b hb h => by have := hw.lo b h; omega) hB1.size)
    refine (put_Rg (po := W.heap.size) hh hn hone hM hN hQ (hQ _ _ _ _ hq1 hfn hgn) hwn hBn hl (k1.fr hfn hT1) hT1).mono ?_
    rintro e W9 ⟨rfl, T9, h9, hf9, hg9⟩
    refine ⟨rfl, T9, ?_, (Fr.of_below hb1 T).trans (hfn.trans hf9), (hg9.alloc_left (W0 := W1) hfn.size).alloc_left hb1.size⟩
    rw [← Bool.or_assoc, h2]
    exact h9
  cases hlg : lg with
  | true =>
    have FN := fin true (by rw [hlg]; rfl)
    rw [hlg] at c1
    clear fin hlg
    go_wp2_with fail
    refine FN.out.mono ?_
    rintro e W9 ⟨rfl, h9⟩
    go_wp2_with fail
    go_end0
    exact ⟨rfl, h9⟩
  | false =>
    rw [hlg] at c1
    have FN := fin (decide (64 < (h.l.length : Int))) (by rw [hlg, Bool.false_or]; exact decide_eq_decide.2 (by omega))
    clear fin hlg
    go_wp2_with fail
    refine FN.out.mono ?_
    rintro e W9 ⟨rfl, h9⟩
    go_wp2_with fail
    go_end0
    exact ⟨rfl, h9⟩
set_option maxRecDepth 100000 in
theorem list1_Pc {wa : World} {g p po : Nat} {Q : (Nat → Prop) → World → Prop} {enc : List UInt8} {bad : Bool} (x : Pc) {N : Nat} (hone : OneW wa g Q 61 #[.agg #[.int .i64 x.prio, .int .i64 x.per, .int .i64 x.cost], .pointer (some ⟨p, 0, none⟩)] N enc bad) {T : Nat → Prop} {W : World} {l : List UInt8} {lg : Bool}
    (hQ : Stq Q) (hq : Q T W) (hw : WrC W wa.heap.size g T l lg) (hB : Below wa.heap.size wa W) (hl : l.length ≤ N) (ho : Blk W po 130 #[.func (.func 61) #[] #[.pointer (some ⟨p, 0, none⟩)]]) :
    Calls Tryz.prog 118 #[.pointer (some ⟨g, 0, none⟩), .agg #[.int .i64 x.prio, .int .i64 x.per, .int .i64 x.cost], .pointer (some ⟨po, 0, none⟩)] W (Wro W wa.heap.size g T (l ++ enc) (lg || bad)) := by
  have hb1 := (Below.refl W.heap.size W).alloc (Nat.le_refl _) (.cells #[.int .i64 x.prio, .int .i64 x.per, .int .i64 x.cost] 129)
  have k1 := Blk.new W 129 #[.int .i64 x.prio, .int .i64 x.per, .int .i64 x.cost]
  have hw1 := hw.keep hb1
  have ho1 := ho.keep hb1
  have hq1 := hQ T T _ _ hq (Fr.of_below hb1 T) (fun b hb => ⟨.inl hb, Nat.lt_of_lt_of_le (hw.bnd b hb) hb1.size⟩)
  have hB1 := hB.trans (hb1.mono hB.size)
  go_enter Tryz.func118, Tryz.ntmps118
  go_upto_region 1 with fail
  generalize W.alloc (.cells #[.int .i64 x.prio, .int .i64 x.per, .int .i64 x.cost] 129) = W1 at hb1 k1 hw1 ho1 hq1 hB1 ⊢
  have c0 : W1.cell? ⟨W.heap.size, 0, none⟩ = some (.int .i64 x.prio) := k1.cell 0
  have c1 : W1.cell? ⟨W.heap.size, 1, none⟩ = some (.int .i64 x.per) := k1.cell 1
  have c2 : W1.cell? ⟨W.heap.size, 2, none⟩ = some (.int .i64 x.cost) := k1.cell 2
  have hl1 := k1.lt
  have hlo := ho1.lt
  have o0 : W1.cell? ⟨po, 0, none⟩ = some (.func (.func 61) #[] #[.pointer (some ⟨p, 0, none⟩)]) := ho1.cell 0
  go_wp2_with fail
  refine (hone T W1 l lg hq1 hw1 hB1 hl).mono ?_
  rintro e W2 ⟨rfl, h2⟩
  go_wp2_with fail
  go_end0
  exact Wro.below ⟨rfl, h2⟩ hb1
theorem any_snocPc {bad : Pc → Bool} {l : List Pc} {k : Nat} (h : k < l.length) (lg : Bool) : (lg || (l.take k).any bad || bad (atD Pc0 l k)) = (lg || (l.take (k + 1)).any bad) := by
  rw [take_snocG Pc0 l k h]
  simp [Bool.or_assoc]
set_option maxRecDepth 100000 in
theorem put_Pc {wa : World} {g p po : Nat} {Q : (Nat → Prop) → World → Prop} {enc : Pc → List UInt8} {bad : Pc → Bool} {h : Hd Pc} {N M : Nat} (hh : rdPcs.ok wa h) (hn : h.l.length ≤ 100) (hone : ∀ x ∈ h.l, OneW wa g Q 61 #[.agg #[.int .i64 x.prio, .int .i64 x.per, .int .i64 x.cost], .pointer (some ⟨p, 0, none⟩)] N (enc x) (bad x))
    (hM : ∀ x ∈ h.l, (enc x).length ≤ M) (hN : N ≤ 60000000) {T : Nat → Prop} {W : World} {l : List UInt8} {lg : Bool}
    (hQ : Stq Q) (hq : Q T W) (hw : WrC W wa.heap.size g T l lg) (hB : Below wa.heap.size wa W) (hl : l.length + 11 + 100 * M ≤ N) (ho : Blk W po 130 #[.func (.func 61) #[] #[.pointer (some ⟨p, 0, none⟩)]]) (hpo : ¬ T po) :
    Calls Tryz.prog 117 #[.pointer (some ⟨g, 0, none⟩), .slice h.A h.l.length h.c, .func (.func 118) #[] #[.pointer (some ⟨po, 0, none⟩)]] W (Wro W wa.heap.size g T (l ++ (vint h.l.length ++ h.l.flatMap enc)) (lg || h.l.any bad)) := by
  have hgl := hw.lt
  have hBs := hB.size
  obtain ⟨A, c, hl0⟩ := h
  simp only at hh hn hone hM ⊢
  have hvl := vint_len (hl0.length : Int)
  go_enter Tryz.func117, Tryz.ntmps117
  go_wp2_with fail
  refine (writeIntC_any hw hBs (by omega) (n := (hl0.length : Int)) (by unfold i64; omega)).mono ?_
  rintro e w2 ⟨rfl, T2, h2, hf2, hg2⟩
  go_wp2_with fail
  go_loopw [16] (fun i wr => ∃ (k : Nat) (T' : Nat → Prop), k ≤ hl0.length ∧ i = .int .i64 (k : Int) ∧ WrC wr wa.heap.size g T' ((l ++ vint hl0.length) ++ (hl0.take k).flatMap enc) (lg || (hl0.take k).any bad) ∧ Fr T W wr ∧ Grw T T' W wr) (fun i _ => hl0.length - (intOf i).toNat)
  case atStart => exact ⟨0, T2, Nat.zero_le _, rfl, by simpa using h2, hf2, hg2⟩
  case round =>
    obtain ⟨k, T', hk, rfl, hwr, hfr, hgr⟩ := hrel
    have hqr := hQ _ _ _ _ hq hfr hgr
    have hBr := hB.trans (hfr.below (fun b hb h => by have := hw.lo b h; omega) hBs)
    have hor := ho.fr hfr hpo
    by_cases hlt : k < hl0.length
    · have hT1 := Lib.hid (any_snocPc (bad := bad) hlt lg)
      have hT2 : Hid ((hl0.take (k + 1)).flatMap enc = (hl0.take k).flatMap enc ++ enc (atD Pc0 hl0 k)) := by
        unfold Hid
        rw [take_snocG Pc0 hl0 k hlt, List.flatMap_append]
        simp
      have hfl : ((hl0.take k).flatMap enc).length ≤ k * M := flat_le enc _ (fun x hx => hM x (List.mem_of_mem_take hx)) k (by rw [List.length_take]; omega)
      have hkM : k * M ≤ 100 * M := Nat.mul_le_mul_right M (by omega)
      have honek := hone _ (atD_mem (d := Pc0) hlt)
      obtain ⟨eb, eo, rfl, heb, hec⟩ := (rdPcs.keep hh hBr).1.at_ Pc0 hlt
      have x0 : wr.cell? ⟨eb, eo + k * 3, none⟩ = some (.int .i64 (atD Pc0 hl0 k).prio) := hec 0 _ rfl
      have x1 : wr.cell? ⟨eb, eo + k * 3 + 1, none⟩ = some (.int .i64 (atD Pc0 hl0 k).per) := hec 1 _ rfl
      have x2 : wr.cell? ⟨eb, eo + k * 3 + 2, none⟩ = some (.int .i64 (atD Pc0 hl0 k).cost) := hec 2 _ rfl
      clear hec
      generalize atD Pc0 hl0 k = x at x0 x1 x2 hT1 hT2 honek
      have hb3 := (Below.refl wr.heap.size wr).alloc (Nat.le_refl _) (.cells #[.int .i64 x.prio, .int .i64 x.per, .int .i64 x.cost] 129)
      have k3 := Blk.new wr 129 #[.int .i64 x.prio, .int .i64 x.per, .int .i64 x.cost]
      go_upto_region 5 with fail
      generalize wr.alloc (.cells #[.int .i64 x.prio, .int .i64 x.per, .int .i64 x.cost] 129) = w3 at hb3 k3 ⊢
      have hw3 := hwr.keep hb3
      have ho3 := hor.keep hb3
      have hq3 := hQ T' T' _ _ hqr (Fr.of_below hb3 T') (fun b hb => ⟨.inl hb, Nat.lt_of_lt_of_le (hwr.bnd b hb) hb3.size⟩)
      have hB3 := hBr.trans (hb3.mono hBr.size)
      have y0 : w3.cell? ⟨wr.heap.size, 0, none⟩ = some (.int .i64 x.prio) := k3.cell 0
      have y1 : w3.cell? ⟨wr.heap.size, 1, none⟩ = some (.int .i64 x.per) := k3.cell 1
      have y2 : w3.cell? ⟨wr.heap.size, 2, none⟩ = some (.int .i64 x.cost) := k3.cell 2
      have hl3 := k3.lt
      clear x0 x1 x2
      go_wp2_with fail
      refine (list1_Pc (po := po) x honek hQ hq3 hw3 hB3 (by simp only [List.length_append]; omega) ho3).mono ?_
      rintro e w4 ⟨rfl, T4, h4, hf4, hg4⟩
      go_wp2_with fail
      refine ⟨⟨k + 1, T4, by omega, by go_num, ?_, hfr.grw hgr ((Fr.of_below hb3 T').trans hf4), hgr.trans hfr.size (hg4.alloc_left hb3.size)⟩, by simp [intOf]; omega⟩
      rw [hT2.out, ← hT1.out, ← List.append_assoc]
      exact h4
    · obtain rfl : k = hl0.length := by omega
      have HT : Hid (hl0.take hl0.length = hl0) := List.take_length
      rw [HT.out, List.append_assoc] at hwr
      go_wp2_with fail
      go_end0
      exact ⟨rfl, T', hwr, hfr, hgr⟩
set_option maxRecDepth 100000 in
theorem list_Pc {wa : World} {g p : Nat} {Q : (Nat → Prop) → World → Prop} {enc : Pc → List UInt8} {bad : Pc → Bool} {h : Hd Pc} {N M : Nat} (hh : rdPcs.ok wa h) (hn : h.l.length ≤ 100) (hone : ∀ x ∈ h.l, OneW wa g Q 61 #[.agg #[.int .i64 x.prio, .int .i64 x.per, .int .i64 x.cost], .pointer (some ⟨p, 0, none⟩)] N (enc x) (bad x))
    (hM : ∀ x ∈ h.l, (enc x).length ≤ M) (hN : N ≤ 60000000) {T : Nat → Prop} {W : World} {l : List UInt8} {lg : Bool}
    (hQ : Stq Q) (hq : Q T W) (hw : WrC W wa.heap.size g T l lg) (hB : Below wa.heap.size wa W) (hl : l.length + 11 + 100 * M ≤ N) :
    Calls Tryz.prog 60 #[.pointer (some ⟨g, 0, none⟩), .slice h.A h.l.length h.c, .func (.func 61) #[] #[.pointer (some ⟨p, 0, none⟩)]] W (Wro W wa.heap.size g T (l ++ (vint h.l.length ++ h.l.flatMap enc)) (lg || (decide (64 < h.l.length) || h.l.any bad))) := by
  have hb1 := (Below.refl W.heap.size W).alloc (Nat.le_refl _) (.cells #[.func (.func 61) #[] #[.pointer (some ⟨p, 0, none⟩)]] 130)
  have k1 := Blk.new W 130 #[.func (.func 61) #[] #[.pointer (some ⟨p, 0, none⟩)]]
  have hw1 := hw.keep hb1
  have hT1 : ¬ T W.heap.size := fun h => by have := hw.bnd _ h; omega
  have hq1 := hQ T T _ _ hq (Fr.of_below hb1 T) (fun b hb => ⟨.inl hb, Nat.lt_of_lt_of_le (hw.bnd b hb) hb1.size⟩)
  have hgl := hw1.lt
  go_enter Tryz.func60, Tryz.ntmps60
  go_upto_region 1 with fail
  generalize W.alloc (.cells #[.func (.func 61) #[] #[.pointer (some ⟨p, 0, none⟩)]] 130) = W1 at hb1 k1 hw1 hq1 hgl ⊢
  have hB1 := hB.trans (hb1.mono hB.size)
  have hwg := hw1
  obtain ⟨⟨v, kb, hrow, hv⟩, h6, h7, h8⟩ := hwg
  have c1 : W1.cell? ⟨g, 1, none⟩ = some (.bool lg) := kb.cell 1
  have f1 : W1.frozen? ⟨g, 1, none⟩ = false := kb.frozen 1
  have hpg : W.heap.size ≠ g := fun h => by rw [h] at hT1; exact hT1 hw.tg
  have fin : ∀ lg2 : Bool, (lg || decide (64 < h.l.length)) = lg2 → Hid (Calls Tryz.prog 117 #[.pointer (some ⟨g, 0, none⟩), .slice h.A h.l.length h.c, .func (.func 118) #[] #[.pointer (some ⟨W.heap.size, 0, none⟩)]] (W1.setCell ⟨g, 1, none⟩ (.bool lg2)) (Wro W wa.heap.size g T (l ++ (vint h.l.length ++ h.l.flatMap enc)) (lg || (decide (64 < h.l.length) || h.l.any bad)))) := fun lg2 h2 => by
    have hwn := hw1.setLong lg2
    have hfn : Fr T W1 (W1.setCell ⟨g, 1, none⟩ (.bool lg2)) := (Fr.refl T W1).setCell (p := ⟨g, 1, none⟩) (fun _ => hw.tg) _
    have hgn : Grw T T W1 (W1.setCell ⟨g, 1, none⟩ (.bool lg2)) := fun b hb => ⟨.inl hb, hwn.bnd b hb⟩
    have hBn := hB1.trans (hfn.below (fun b hb h => by have := hw.lo b h; omega) hB1.size)
    refine (put_Pc (po := W.heap.size) hh hn hone hM hN hQ (hQ _ _ _ _ hq1 hfn hgn) hwn hBn hl (k1.fr hfn hT1) hT1).mono ?_
    rintro e W9 ⟨rfl, T9, h9, hf9, hg9⟩
    refine ⟨rfl, T9, ?_, (Fr.of_below hb1 T).trans (hfn.trans hf9), (hg9.alloc_left (W0 := W1) hfn.size).alloc_left hb1.size⟩
    rw [← Bool.or_assoc, h2]
    exact h9
  cases hlg : lg with
  | true =>
    have FN := fin true (by rw [hlg]; rfl)
    rw [hlg] at c1
    clear fin hlg
    go_wp2_with fail
    refine FN.out.mono ?_
    rintro e W9 ⟨rfl, h9⟩
    go_wp2_with fail
    go_end0
    exact ⟨rfl, h9⟩
  | false =>
    rw [hlg] at c1
    have FN := fin (decide (64 < (h.l.length : Int))) (by rw [hlg, Bool.false_or]; exact decide_eq_decide.2 (by omega))
    clear fin hlg
    go_wp2_with fail
    refine FN.out.mono ?_
    rintro e W9 ⟨rfl, h9⟩
    go_wp2_with fail
    go_end0
    exact ⟨rfl, h9⟩
set_option maxRecDepth 100000 in
theorem list1_Po {wa : World} {g p po : Nat} {Q : (Nat → Prop) → World → Prop} {enc : List UInt8} {bad : Bool} (x : Po) {N : Nat} (hone : OneW wa g Q 63 #[.agg #[.bool x.q, .bool x.inn, .int .i64 x.size, .int .i64 x.depth], .pointer (some ⟨p, 0, none⟩)] N enc bad) {T : Nat → Prop} {W : World} {l : List UInt8} {lg : Bool}
    (hQ : Stq Q) (hq : Q T W) (hw : WrC W wa.heap.size g T l lg) (hB : Below wa.heap.size wa W) (hl : l.length ≤ N) (ho : Blk W po 134 #[.func (.func 63) #[] #[.pointer (some ⟨p, 0, none⟩)]]) :
    Calls Tryz.prog 120 #[.pointer (some ⟨g, 0, none⟩), .agg #[.bool x.q, .bool x.inn, .int .i64 x.size, .int .i64 x.depth], .pointer (some ⟨po, 0, none⟩)] W (Wro W wa.heap.size g T (l ++ enc) (lg || bad)) := by
  have hb1 := (Below.refl W.heap.size W).alloc (Nat.le_refl _) (.cells #[.bool x.q, .bool x.inn, .int .i64 x.size, .int .i64 x.depth] 133)
  have k1 := Blk.new W 133 #[.bool x.q, .bool x.inn, .int .i64 x.size, .int .i64 x.depth]
  have hw1 := hw.keep hb1
  have ho1 := ho.keep hb1
  have hq1 := hQ T T _ _ hq (Fr.of_below hb1 T) (fun b hb => ⟨.inl hb, Nat.lt_of_lt_of_le (hw.bnd b hb) hb1.size⟩)
  have hB1 := hB.trans (hb1.mono hB.size)
  go_enter Tryz.func120, Tryz.ntmps120
  go_upto_region 1 with fail
  generalize W.alloc (.cells #[.bool x.q, .bool x.inn, .int .i64 x.size, .int .i64 x.depth] 133) = W1 at hb1 k1 hw1 ho1 hq1 hB1 ⊢
  have c0 : W1.cell? ⟨W.heap.size, 0, none⟩ = some (.bool x.q) := k1.cell 0
  have c1 : W1.cell? ⟨W.heap.size, 1, none⟩ = some (.bool x.inn) := k1.cell 1
  have c2 : W1.cell? ⟨W.heap.size, 2, none⟩ = some (.int .i64 x.size) := k1.cell 2
  have c3 : W1.cell? ⟨W.heap.size, 3, none⟩ = some (.int .i64 x.depth) := k1.cell 3
  have hl1 := k1.lt
  have hlo := ho1.lt
  have o0 : W1.cell? ⟨po, 0, none⟩ = some (.func (.func 63) #[] #[.pointer (some ⟨p, 0, none⟩)]) := ho1.cell 0
  go_wp2_with fail
  refine (hone T W1 l lg hq1 hw1 hB1 hl).mono ?_
  rintro e W2 ⟨rfl, h2⟩
  go_wp2_with fail
  go_end0
  exact Wro.below ⟨rfl, h2⟩ hb1
theorem any_snocPo {bad : Po → Bool} {l : List Po} {k : Nat} (h : k < l.length) (lg : Bool) : (lg || (l.take k).any bad || bad (atD Po0 l k)) = (lg || (l.take (k + 1)).any bad) := by
  rw [take_snocG Po0 l k h]
  simp [Bool.or_assoc]
set_option maxRecDepth 100000 in
theorem put_Po {wa : World} {g p po : Nat} {Q : (Nat → Prop) → World → Prop} {enc : Po → List UInt8} {bad : Po → Bool} {h : Hd Po} {N M : Nat} (hh : rdPos.ok wa h) (hn : h.l.length ≤ 100) (hone : ∀ x ∈ h.l, OneW wa g Q 63 #[.agg #[.bool x.q, .bool x.inn, .int .i64 x.size, .int .i64 x.depth], .pointer (some ⟨p, 0, none⟩)] N (enc x) (bad x))
    (hM : ∀ x ∈ h.l, (enc x).length ≤ M) (hN : N ≤ 60000000) {T : Nat → Prop} {W : World} {l : List UInt8} {lg : Bool}
    (hQ : Stq Q) (hq : Q T W) (hw : WrC W wa.heap.size g T l lg) (hB : Below wa.heap.size wa W) (hl : l.length + 11 + 100 * M ≤ N) (ho : Blk W po 134 #[.func (.func 63) #[] #[.pointer (some ⟨p, 0, none⟩)]]) (hpo : ¬ T po) :
    Calls Tryz.prog 119 #[.pointer (some ⟨g, 0, none⟩), .slice h.A h.l.length h.c, .func (.func 120) #[] #[.pointer (some ⟨po, 0, none⟩)]] W (Wro W wa.heap.size g T (l ++ (vint h.l.length ++ h.l.flatMap enc)) (lg || h.l.any bad)) := by
  have hgl := hw.lt
  have hBs := hB.size
  obtain ⟨A, c, hl0⟩ := h
  simp only at hh hn hone hM ⊢
  have hvl := vint_len (hl0.length : Int)
  go_enter Tryz.func119, Tryz.ntmps119
  go_wp2_with fail
  refine (writeIntC_any hw hBs (by omega) (n := (hl0.length : Int)) (by unfold i64; omega)).mono ?_
  rintro e w2 ⟨rfl, T2, h2, hf2, hg2⟩
  go_wp2_with fail
  go_loopw [16] (fun i wr => ∃ (k : Nat) (T' : Nat → Prop), k ≤ hl0.length ∧ i = .int .i64 (k : Int) ∧ WrC wr wa.heap.size g T' ((l ++ vint hl0.length) ++ (hl0.take k).flatMap enc) (lg || (hl0.take k).any bad) ∧ Fr T W wr ∧ Grw T T' W wr) (fun i _ => hl0.length - (intOf i).toNat)
  case atStart => exact ⟨0, T2, Nat.zero_le _, rfl, by simpa using h2, hf2, hg2⟩
  case round =>
    obtain ⟨k, T', hk, rfl, hwr, hfr, hgr⟩ := hrel
    have hqr := hQ _ _ _ _ hq hfr hgr
    have hBr := hB.trans (hfr.below (fun b hb h => by have := hw.lo b h; omega) hBs)
    have hor := ho.fr hfr hpo
    by_cases hlt : k < hl0.length
    · have hT1 := Lib.hid (any_snocPo (bad := bad) hlt lg)
      have hT2 : Hid ((hl0.take (k + 1)).flatMap enc = (hl0.take k).flatMap enc ++ enc (atD Po0 hl0 k)) := by
        unfold Hid
        rw [take_snocG Po0 hl0 k hlt, List.flatMap_append]
        simp
      have hfl : ((hl0.take k).flatMap enc).length ≤ k * M := flat_le enc _ (fun x hx => hM x (List.mem_of_mem_take hx)) k (by rw [List.length_take]; omega)
      have hkM : k * M ≤ 100 * M := Nat.mul_le_mul_right M (by omega)
      have honek := hone _ (atD_mem (d := Po0) hlt)
      obtain ⟨eb, eo, rfl, heb, hec⟩ := (rdPos.keep hh hBr).1.at_ Po0 hlt
      have x0 : wr.cell? ⟨eb, eo + k * 4, none⟩ = some (.bool (atD Po0 hl0 k).q) := hec 0 _ rfl
      have x1 : wr.cell? ⟨eb, eo + k * 4 + 1, none⟩ = some (.bool (atD Po0 hl0 k).inn) := hec 1 _ rfl
      have x2 : wr.cell? ⟨eb, eo + k * 4 + 2, none⟩ = some (.int .i64 (atD Po0 hl0 k).size) := hec 2 _ rfl
      have x3 : wr.cell? ⟨eb, eo + k * 4 + 3, none⟩ = some (.int .i64 (atD Po0 hl0 k).depth) := hec 3 _ rfl
      clear hec
      generalize atD Po0 hl0 k = x at x0 x1 x2 x3 hT1 hT2 honek
      have hb3 := (Below.refl wr.heap.size wr).alloc (Nat.le_refl _) (.cells #[.bool x.q, .bool x.inn, .int .i64 x.size, .int .i64 x.depth] 133)
      have k3 := Blk.new wr 133 #[.bool x.q, .bool x.inn, .int .i64 x.size, .int .i64 x.depth]
      go_upto_region 5 with fail
      generalize wr.alloc (.cells #[.bool x.q, .bool x.inn, .int .i64 x.size, .int .i64 x.depth] 133) = w3 at hb3 k3 ⊢
      have hw3 := hwr.keep hb3
      have ho3 := hor.keep hb3
      have hq3 := hQ T' T' _ _ hqr (Fr.of_below hb3 T') (fun b hb => ⟨.inl hb, Nat.lt_of_lt_of_le (hwr.bnd b hb) hb3.size⟩)
      have hB3 := hBr.trans (hb3.mono hBr.size)
      have y0 : w3.cell? ⟨wr.heap.size, 0, none⟩ = some (.bool x.q) := k3.cell 0
      have y1 : w3.cell? ⟨wr.heap.size, 1, none⟩ = some (.bool x.inn) := k3.cell 1
      have y2 : w3.cell? ⟨wr.heap.size, 2, none⟩ = some (.int .i64 x.size) := k3.cell 2
      have y3 : w3.cell? ⟨wr.heap.size, 3, none⟩ = some (.int .i64 x.depth) := k3.cell 3
      have hl3 := k3.lt
      clear x0 x1 x2 x3
      go_wp2_with fail
      refine (list1_Po (po := po) x honek hQ hq3 hw3 hB3 (by simp only [List.length_append]; omega) ho3).mono ?_
      rintro e w4 ⟨rfl, T4, h4, hf4, hg4⟩
      go_wp2_with fail
      refine ⟨⟨k + 1, T4, by omega, by go_num, ?_, hfr.grw hgr ((Fr.of_below hb3 T').trans hf4), hgr.trans hfr.size (hg4.alloc_left hb3.size)⟩, by simp [intOf]; omega⟩
      rw [hT2.out, ← hT1.out, ← List.append_assoc]
      exact h4
    · obtain rfl : k = hl0.length := by omega
      have HT : Hid (hl0.take hl0.length = hl0) := List.take_length
      rw [HT.out, List.append_assoc] at hwr
      go_wp2_with fail
      go_end0
      exact ⟨rfl, T', hwr, hfr, hgr⟩
set_option maxRecDepth 100000 in
theorem list_Po {wa : World} {g p : Nat} {Q : (Nat → Prop) → World → Prop} {enc : Po → List UInt8} {bad : Po → Bool} {h : Hd Po} {N M : Nat} (hh : rdPos.ok wa h) (hn : h.l.length ≤ 100) (hone : ∀ x ∈ h.l, OneW wa g Q 63 #[.agg #[.bool x.q, .bool x.inn, .int .i64 x.size, .int .i64 x.depth], .pointer (some ⟨p, 0, none⟩)] N (enc x) (bad x))
    (hM : ∀ x ∈ h.l, (enc x).length ≤ M) (hN : N ≤ 60000000) {T : Nat → Prop} {W : World} {l : List UInt8} {lg : Bool}
    (hQ : Stq Q) (hq : Q T W) (hw : WrC W wa.heap.size g T l lg) (hB : Below wa.heap.size wa W) (hl : l.length + 11 + 100 * M ≤ N) :
    Calls Tryz.prog 62 #[.pointer (some ⟨g, 0, none⟩), .slice h.A h.l.length h.c, .func (.func 63) #[] #[.pointer (some ⟨p, 0, none⟩)]] W (Wro W wa.heap.size g T (l ++ (vint h.l.length ++ h.l.flatMap enc)) (lg || (decide (64 < h.l.length) || h.l.any bad))) := by
  have hb1 := (Below.refl W.heap.size W).alloc (Nat.le_refl _) (.cells #[.func (.func 63) #[] #[.pointer (some ⟨p, 0, none⟩)]] 134)
  have k1 := Blk.new W 134 #[.func (.func 63) #[] #[.pointer (some ⟨p, 0, none⟩)]]
  have hw1 := hw.keep hb1
  have hT1 : ¬ T W.heap.size := fun h => by have := hw.bnd _ h; omega
  have hq1 := hQ T T _ _ hq (Fr.of_below hb1 T) (fun b hb => ⟨.inl hb, Nat.lt_of_lt_of_le (hw.bnd b hb) hb1.size⟩)
  have hgl := hw1.lt
  go_enter Tryz.func62, Tryz.ntmps62
  go_upto_region 1 with fail
  generalize W.alloc (.cells #[.func (.func 63) #[] #[.pointer (some ⟨p, 0, none⟩)]] 134) = W1 at hb1 k1 hw1 hq1 hgl ⊢
  have hB1 := hB.trans (hb1.mono hB.size)
  have hwg := hw1
  obtain ⟨⟨v, kb, hrow, hv⟩, h6, h7, h8⟩ := hwg
  have c1 : W1.cell? ⟨g, 1, none⟩ = some (.bool lg) := kb.cell 1
  have f1 : W1.frozen? ⟨g, 1, none⟩ = false := kb.frozen 1
  have hpg : W.heap.size ≠ g := fun h => by rw [h] at hT1; exact hT1 hw.tg
  have fin : ∀ lg2 : Bool, (lg || decide (64 < h.l.length)) = lg2 → Hid (Calls Tryz.prog 119 #[.pointer (some ⟨g, 0, none⟩), .slice h.A h.l.length h.c, .func (.func 120) #[] #[.pointer (some ⟨W.heap.size, 0, none⟩)]] (W1.setCell ⟨g, 1, none⟩ (.bool lg2)) (Wro W wa.heap.size g T (l ++ (vint h.l.length ++ h.l.flatMap enc)) (lg || (decide (64 < h.l.length) || h.l.any bad)))) := fun lg2 h2 => by
    have hwn := hw1.setLong lg2
    have hfn : Fr T W1 (W1.setCell ⟨g, 1, none⟩ (.bool lg2)) := (Fr.refl T W1).setCell (p := ⟨g, 1, none⟩) (fun _ => hw.tg) _
    have hgn : Grw T T W1 (W1.setCell ⟨g, 1, none⟩ (.bool lg2)) := fun b hb => ⟨.inl hb, hwn.bnd b hb⟩
    have hBn := hB1.trans (hfn.below (fun b hb h => by have := hw.lo b h; omega) hB1.size)
    refine (put_Po (po := W.heap.size) hh hn hone hM hN hQ (hQ _ _ _ _ hq1 hfn hgn) hwn hBn hl (k1.fr hfn hT1) hT1).mono ?_
    rintro e W9 ⟨rfl, T9, h9, hf9, hg9⟩
    refine ⟨rfl, T9, ?_, (Fr.of_below hb1 T).trans (hfn.trans hf9), (hg9.alloc_left (W0 := W1) hfn.size).alloc_left hb1.size⟩
    rw [← Bool.or_assoc, h2]
    exact h9
  cases hlg : lg with
  | true =>
    have FN := fin true (by rw [hlg]; rfl)
    rw [hlg] at c1
    clear fin hlg
    go_wp2_with fail
    refine FN.out.mono ?_
    rintro e W9 ⟨rfl, h9⟩
    go_wp2_with fail
    go_end0
    exact ⟨rfl, h9⟩
  | false =>
    rw [hlg] at c1
    have FN := fin (decide (64 < (h.l.length : Int))) (by rw [hlg, Bool.false_or]; exact decide_eq_decide.2 (by omega))
    clear fin hlg
    go_wp2_with fail
    refine FN.out.mono ?_
    rintro e W9 ⟨rfl, h9⟩
    go_wp2_with fail
    go_end0
    exact ⟨rfl, h9⟩
set_option maxRecDepth 100000 in
theorem list1_Sm {wa : World} {g p po : Nat} {Q : (Nat → Prop) → World → Prop} {enc : List UInt8} {bad : Bool} (x : Sm) {N : Nat} (hone : OneW wa g Q 65 #[.agg #[.int .i64 x.first, .int .i64 x.most], .pointer (some ⟨p, 0, none⟩)] N enc bad) {T : Nat → Prop} {W : World} {l : List UInt8} {lg : Bool}
    (hQ : Stq Q) (hq : Q T W) (hw : WrC W wa.heap.size g T l lg) (hB : Below wa.heap.size wa W) (hl : l.length ≤ N) (ho : Blk W po 138 #[.func (.func 65) #[] #[.pointer (some ⟨p, 0, none⟩)]]) :
    Calls Tryz.prog 122 #[.pointer (some ⟨g, 0, none⟩), .agg #[.int .i64 x.first, .int .i64 x.most], .pointer (some ⟨po, 0, none⟩)] W (Wro W wa.heap.size g T (l ++ enc) (lg || bad)) := by
  have hb1 := (Below.refl W.heap.size W).alloc (Nat.le_refl _) (.cells #[.int .i64 x.first, .int .i64 x.most] 137)
  have k1 := Blk.new W 137 #[.int .i64 x.first, .int .i64 x.most]
  have hw1 := hw.keep hb1
  have ho1 := ho.keep hb1
  have hq1 := hQ T T _ _ hq (Fr.of_below hb1 T) (fun b hb => ⟨.inl hb, Nat.lt_of_lt_of_le (hw.bnd b hb) hb1.size⟩)
  have hB1 := hB.trans (hb1.mono hB.size)
  go_enter Tryz.func122, Tryz.ntmps122
  go_upto_region 1 with fail
  generalize W.alloc (.cells #[.int .i64 x.first, .int .i64 x.most] 137) = W1 at hb1 k1 hw1 ho1 hq1 hB1 ⊢
  have c0 : W1.cell? ⟨W.heap.size, 0, none⟩ = some (.int .i64 x.first) := k1.cell 0
  have c1 : W1.cell? ⟨W.heap.size, 1, none⟩ = some (.int .i64 x.most) := k1.cell 1
  have hl1 := k1.lt
  have hlo := ho1.lt
  have o0 : W1.cell? ⟨po, 0, none⟩ = some (.func (.func 65) #[] #[.pointer (some ⟨p, 0, none⟩)]) := ho1.cell 0
  go_wp2_with fail
  refine (hone T W1 l lg hq1 hw1 hB1 hl).mono ?_
  rintro e W2 ⟨rfl, h2⟩
  go_wp2_with fail
  go_end0
  exact Wro.below ⟨rfl, h2⟩ hb1
theorem any_snocSm {bad : Sm → Bool} {l : List Sm} {k : Nat} (h : k < l.length) (lg : Bool) : (lg || (l.take k).any bad || bad (atD Sm0 l k)) = (lg || (l.take (k + 1)).any bad) := by
  rw [take_snocG Sm0 l k h]
  simp [Bool.or_assoc]
set_option maxRecDepth 100000 in
theorem put_Sm {wa : World} {g p po : Nat} {Q : (Nat → Prop) → World → Prop} {enc : Sm → List UInt8} {bad : Sm → Bool} {h : Hd Sm} {N M : Nat} (hh : rdSms.ok wa h) (hn : h.l.length ≤ 100) (hone : ∀ x ∈ h.l, OneW wa g Q 65 #[.agg #[.int .i64 x.first, .int .i64 x.most], .pointer (some ⟨p, 0, none⟩)] N (enc x) (bad x))
    (hM : ∀ x ∈ h.l, (enc x).length ≤ M) (hN : N ≤ 60000000) {T : Nat → Prop} {W : World} {l : List UInt8} {lg : Bool}
    (hQ : Stq Q) (hq : Q T W) (hw : WrC W wa.heap.size g T l lg) (hB : Below wa.heap.size wa W) (hl : l.length + 11 + 100 * M ≤ N) (ho : Blk W po 138 #[.func (.func 65) #[] #[.pointer (some ⟨p, 0, none⟩)]]) (hpo : ¬ T po) :
    Calls Tryz.prog 121 #[.pointer (some ⟨g, 0, none⟩), .slice h.A h.l.length h.c, .func (.func 122) #[] #[.pointer (some ⟨po, 0, none⟩)]] W (Wro W wa.heap.size g T (l ++ (vint h.l.length ++ h.l.flatMap enc)) (lg || h.l.any bad)) := by
  have hgl := hw.lt
  have hBs := hB.size
  obtain ⟨A, c, hl0⟩ := h
  simp only at hh hn hone hM ⊢
  have hvl := vint_len (hl0.length : Int)
  go_enter Tryz.func121, Tryz.ntmps121
  go_wp2_with fail
  refine (writeIntC_any hw hBs (by omega) (n := (hl0.length : Int)) (by unfold i64; omega)).mono ?_
  rintro e w2 ⟨rfl, T2, h2, hf2, hg2⟩
  go_wp2_with fail
  go_loopw [16] (fun i wr => ∃ (k : Nat) (T' : Nat → Prop), k ≤ hl0.length ∧ i = .int .i64 (k : Int) ∧ WrC wr wa.heap.size g T' ((l ++ vint hl0.length) ++ (hl0.take k).flatMap enc) (lg || (hl0.take k).any bad) ∧ Fr T W wr ∧ Grw T T' W wr) (fun i _ => hl0.length - (intOf i).toNat)
  case atStart => exact ⟨0, T2, Nat.zero_le _, rfl, by simpa using h2, hf2, hg2⟩
  case round =>
    obtain ⟨k, T', hk, rfl, hwr, hfr, hgr⟩ := hrel
    have hqr := hQ _ _ _ _ hq hfr hgr
    have hBr := hB.trans (hfr.below (fun b hb h => by have := hw.lo b h; omega) hBs)
    have hor := ho.fr hfr hpo
    by_cases hlt : k < hl0.length
    · have hT1 := Lib.hid (any_snocSm (bad := bad) hlt lg)
      have hT2 : Hid ((hl0.take (k + 1)).flatMap enc = (hl0.take k).flatMap enc ++ enc (atD Sm0 hl0 k)) := by
        unfold Hid
        rw [take_snocG Sm0 hl0 k hlt, List.flatMap_append]
        simp
      have hfl : ((hl0.take k).flatMap enc).length ≤ k * M := flat_le enc _ (fun x hx => hM x (List.mem_of_mem_take hx)) k (by rw [List.length_take]; omega)
      have hkM : k * M ≤ 100 * M := Nat.mul_le_mul_right M (by omega)
      have honek := hone _ (atD_mem (d := Sm0) hlt)
      obtain ⟨eb, eo, rfl, heb, hec⟩ := (rdSms.keep hh hBr).1.at_ Sm0 hlt
      have x0 : wr.cell? ⟨eb, eo + k * 2, none⟩ = some (.int .i64 (atD Sm0 hl0 k).first) := hec 0 _ rfl
      have x1 : wr.cell? ⟨eb, eo + k * 2 + 1, none⟩ = some (.int .i64 (atD Sm0 hl0 k).most) := hec 1 _ rfl
      clear hec
      generalize atD Sm0 hl0 k = x at x0 x1 hT1 hT2 honek
      have hb3 := (Below.refl wr.heap.size wr).alloc (Nat.le_refl _) (.cells #[.int .i64 x.first, .int .i64 x.most] 137)
      have k3 := Blk.new wr 137 #[.int .i64 x.first, .int .i64 x.most]
      go_upto_region 5 with fail
      generalize wr.alloc (.cells #[.int .i64 x.first, .int .i64 x.most] 137) = w3 at hb3 k3 ⊢
      have hw3 := hwr.keep hb3
      have ho3 := hor.keep hb3
      have hq3 := hQ T' T' _ _ hqr (Fr.of_below hb3 T') (fun b hb => ⟨.inl hb, Nat.lt_of_lt_of_le (hwr.bnd b hb) hb3.size⟩)
      have hB3 := hBr.trans (hb3.mono hBr.size)
      have y0 : w3.cell? ⟨wr.heap.size, 0, none⟩ = some (.int .i64 x.first) := k3.cell 0
      have y1 : w3.cell? ⟨wr.heap.size, 1, none⟩ = some (.int .i64 x.most) := k3.cell 1
      have hl3 := k3.lt
      clear x0 x1
      go_wp2_with fail
      refine (list1_Sm (po := po) x honek hQ hq3 hw3 hB3 (by simp only [List.length_append]; omega) ho3).mono ?_
      rintro e w4 ⟨rfl, T4, h4, hf4, hg4⟩
      go_wp2_with fail
      refine ⟨⟨k + 1, T4, by omega, by go_num, ?_, hfr.grw hgr ((Fr.of_below hb3 T').trans hf4), hgr.trans hfr.size (hg4.alloc_left hb3.size)⟩, by simp [intOf]; omega⟩
      rw [hT2.out, ← hT1.out, ← List.append_assoc]
      exact h4
    · obtain rfl : k = hl0.length := by omega
      have HT : Hid (hl0.take hl0.length = hl0) := List.take_length
      rw [HT.out, List.append_assoc] at hwr
      go_wp2_with fail
      go_end0
      exact ⟨rfl, T', hwr, hfr, hgr⟩
set_option maxRecDepth 100000 in
theorem list_Sm {wa : World} {g p : Nat} {Q : (Nat → Prop) → World → Prop} {enc : Sm → List UInt8} {bad : Sm → Bool} {h : Hd Sm} {N M : Nat} (hh : rdSms.ok wa h) (hn : h.l.length ≤ 100) (hone : ∀ x ∈ h.l, OneW wa g Q 65 #[.agg #[.int .i64 x.first, .int .i64 x.most], .pointer (some ⟨p, 0, none⟩)] N (enc x) (bad x))
    (hM : ∀ x ∈ h.l, (enc x).length ≤ M) (hN : N ≤ 60000000) {T : Nat → Prop} {W : World} {l : List UInt8} {lg : Bool}
    (hQ : Stq Q) (hq : Q T W) (hw : WrC W wa.heap.size g T l lg) (hB : Below wa.heap.size wa W) (hl : l.length + 11 + 100 * M ≤ N) :
    Calls Tryz.prog 64 #[.pointer (some ⟨g, 0, none⟩), .slice h.A h.l.length h.c, .func (.func 65) #[] #[.pointer (some ⟨p, 0, none⟩)]] W (Wro W wa.heap.size g T (l ++ (vint h.l.length ++ h.l.flatMap enc)) (lg || (decide (64 < h.l.length) || h.l.any bad))) := by
  have hb1 := (Below.refl W.heap.size W).alloc (Nat.le_refl _) (.cells #[.func (.func 65) #[] #[.pointer (some ⟨p, 0, none⟩)]] 138)
  have k1 := Blk.new W 138 #[.func (.func 65) #[] #[.pointer (some ⟨p, 0, none⟩)]]
  have hw1 := hw.keep hb1
  have hT1 : ¬ T W.heap.size := fun h => by have := hw.bnd _ h; omega
  have hq1 := hQ T T _ _ hq (Fr.of_below hb1 T) (fun b hb => ⟨.inl hb, Nat.lt_of_lt_of_le (hw.bnd b hb) hb1.size⟩)
  have hgl := hw1.lt
  go_enter Tryz.func64, Tryz.ntmps64
  go_upto_region 1 with fail
  generalize W.alloc (.cells #[.func (.func 65) #[] #[.pointer (some ⟨p, 0, none⟩)]] 138) = W1 at hb1 k1 hw1 hq1 hgl ⊢
  have hB1 := hB.trans (hb1.mono hB.size)
  have hwg := hw1
  obtain ⟨⟨v, kb, hrow, hv⟩, h6, h7, h8⟩ := hwg
  have c1 : W1.cell? ⟨g, 1, none⟩ = some (.bool lg) := kb.cell 1
  have f1 : W1.frozen? ⟨g, 1, none⟩ = false := kb.frozen 1
  have hpg : W.heap.size ≠ g := fun h => by rw [h] at hT1; exact hT1 hw.tg
  have fin : ∀ lg2 : Bool, (lg || decide (64 < h.l.length)) = lg2 → Hid (Calls Tryz.prog 121 #[.pointer (some ⟨g, 0, none⟩), .slice h.A h.l.length h.c, .func (.func 122) #[] #[.pointer (some ⟨W.heap.size, 0, none⟩)]] (W1.setCell ⟨g, 1, none⟩ (.bool lg2)) (Wro W wa.heap.size g T (l ++ (vint h.l.length ++ h.l.flatMap enc)) (lg || (decide (64 < h.l.length) || h.l.any bad)))) := fun lg2 h2 => by
    have hwn := hw1.setLong lg2
    have hfn : Fr T W1 (W1.setCell ⟨g, 1, none⟩ (.bool lg2)) := (Fr.refl T W1).setCell (p := ⟨g, 1, none⟩) (fun _ => hw.tg) _
    have hgn : Grw T T W1 (W1.setCell ⟨g, 1, none⟩ (.bool lg2)) := fun b hb => ⟨.inl hb, hwn.bnd b hb⟩
    have hBn := hB1.trans (hfn.below (fun b hb h => by have := hw.lo b h; omega) hB1.size)
    refine (put_Sm (po := W.heap.size) hh hn hone hM hN hQ (hQ _ _ _ _ hq1 hfn hgn) hwn hBn hl (k1.fr hfn hT1) hT1).mono ?_
    rintro e W9 ⟨rfl, T9, h9, hf9, hg9⟩
    refine ⟨rfl, T9, ?_, (Fr.of_below hb1 T).trans (hfn.trans hf9), (hg9.alloc_left (W0 := W1) hfn.size).alloc_left hb1.size⟩
    rw [← Bool.or_assoc, h2]
    exact h9
  cases hlg : lg with
  | true =>
    have FN := fin true (by rw [hlg]; rfl)
    rw [hlg] at c1
    clear fin hlg
    go_wp2_with fail
    refine FN.out.mono ?_
    rintro e W9 ⟨rfl, h9⟩
    go_wp2_with fail
    go_end0
    exact ⟨rfl, h9⟩
  | false =>
    rw [hlg] at c1
    have FN := fin (decide (64 < (h.l.length : Int))) (by rw [hlg, Bool.false_or]; exact decide_eq_decide.2 (by omega))
    clear fin hlg
    go_wp2_with fail
    refine FN.out.mono ?_
    rintro e W9 ⟨rfl, h9⟩
    go_wp2_with fail
    go_end0
    exact ⟨rfl, h9⟩
end Go.Proofs.YtahjnonkhbpnpaaGreat
/- conf's lists, written: PoolConf, Window, Level, Nap. Printed by wip/gen_cwlist.py. -/
namespace Go.Proofs.YtahjnonkhbpnpaaGreat
open Go.RowKit
set_option maxRecDepth 100000 in
theorem list1_Pl {wa : World} {g p po : Nat} {Q : (Nat → Prop) → World → Prop} {enc : List UInt8} {bad : Bool} (x : Pl) {N : Nat} (hone : OneW wa g Q 68 #[.agg #[.int .i64 x.size, .int .i64 x.depth], .pointer (some ⟨p, 0, none⟩)] N enc bad) {T : Nat → Prop} {W : World} {l : List UInt8} {lg : Bool}
    (hQ : Stq Q) (hq : Q T W) (hw : WrC W wa.heap.size g T l lg) (hB : Below wa.heap.size wa W) (hl : l.length ≤ N) (ho : Blk W po 143 #[.func (.func 68) #[] #[.pointer (some ⟨p, 0, none⟩)]]) :
    Calls Tryz.prog 125 #[.pointer (some ⟨g, 0, none⟩), .agg #[.int .i64 x.size, .int .i64 x.depth], .pointer (some ⟨po, 0, none⟩)] W (Wro W wa.heap.size g T (l ++ enc) (lg || bad)) := by
  have hb1 := (Below.refl W.heap.size W).alloc (Nat.le_refl _) (.cells #[.int .i64 x.size, .int .i64 x.depth] 142)
  have k1 := Blk.new W 142 #[.int .i64 x.size, .int .i64 x.depth]
  have hw1 := hw.keep hb1
  have ho1 := ho.keep hb1
  have hq1 := hQ T T _ _ hq (Fr.of_below hb1 T) (fun b hb => ⟨.inl hb, Nat.lt_of_lt_of_le (hw.bnd b hb) hb1.size⟩)
  have hB1 := hB.trans (hb1.mono hB.size)
  go_enter Tryz.func125, Tryz.ntmps125
  go_upto_region 1 with fail
  generalize W.alloc (.cells #[.int .i64 x.size, .int .i64 x.depth] 142) = W1 at hb1 k1 hw1 ho1 hq1 hB1 ⊢
  have c0 : W1.cell? ⟨W.heap.size, 0, none⟩ = some (.int .i64 x.size) := k1.cell 0
  have c1 : W1.cell? ⟨W.heap.size, 1, none⟩ = some (.int .i64 x.depth) := k1.cell 1
  have hl1 := k1.lt
  have hlo := ho1.lt
  have o0 : W1.cell? ⟨po, 0, none⟩ = some (.func (.func 68) #[] #[.pointer (some ⟨p, 0, none⟩)]) := ho1.cell 0
  go_wp2_with fail
  refine (hone T W1 l lg hq1 hw1 hB1 hl).mono ?_
  rintro e W2 ⟨rfl, h2⟩
  go_wp2_with fail
  go_end0
  exact Wro.below ⟨rfl, h2⟩ hb1
theorem any_snocPl {bad : Pl → Bool} {l : List Pl} {k : Nat} (h : k < l.length) (lg : Bool) : (lg || (l.take k).any bad || bad (atD Pl0 l k)) = (lg || (l.take (k + 1)).any bad) := by
  rw [take_snocG Pl0 l k h]
  simp [Bool.or_assoc]
set_option maxRecDepth 100000 in
theorem put_Pl {wa : World} {g p po : Nat} {Q : (Nat → Prop) → World → Prop} {enc : Pl → List UInt8} {bad : Pl → Bool} {h : Hd Pl} {N M : Nat} (hh : rdPls.ok wa h) (hn : h.l.length ≤ 100) (hone : ∀ x ∈ h.l, OneW wa g Q 68 #[.agg #[.int .i64 x.size, .int .i64 x.depth], .pointer (some ⟨p, 0, none⟩)] N (enc x) (bad x))
    (hM : ∀ x ∈ h.l, (enc x).length ≤ M) (hN : N ≤ 60000000) {T : Nat → Prop} {W : World} {l : List UInt8} {lg : Bool}
    (hQ : Stq Q) (hq : Q T W) (hw : WrC W wa.heap.size g T l lg) (hB : Below wa.heap.size wa W) (hl : l.length + 11 + 100 * M ≤ N) (ho : Blk W po 143 #[.func (.func 68) #[] #[.pointer (some ⟨p, 0, none⟩)]]) (hpo : ¬ T po) :
    Calls Tryz.prog 124 #[.pointer (some ⟨g, 0, none⟩), .slice h.A h.l.length h.c, .func (.func 125) #[] #[.pointer (some ⟨po, 0, none⟩)]] W (Wro W wa.heap.size g T (l ++ (vint h.l.length ++ h.l.flatMap enc)) (lg || h.l.any bad)) := by
  have hgl := hw.lt
  have hBs := hB.size
  obtain ⟨A, c, hl0⟩ := h
  simp only at hh hn hone hM ⊢
  have hvl := vint_len (hl0.length : Int)
  go_enter Tryz.func124, Tryz.ntmps124
  go_wp2_with fail
  refine (writeIntC_any hw hBs (by omega) (n := (hl0.length : Int)) (by unfold i64; omega)).mono ?_
  rintro e w2 ⟨rfl, T2, h2, hf2, hg2⟩
  go_wp2_with fail
  go_loopw [16] (fun i wr => ∃ (k : Nat) (T' : Nat → Prop), k ≤ hl0.length ∧ i = .int .i64 (k : Int) ∧ WrC wr wa.heap.size g T' ((l ++ vint hl0.length) ++ (hl0.take k).flatMap enc) (lg || (hl0.take k).any bad) ∧ Fr T W wr ∧ Grw T T' W wr) (fun i _ => hl0.length - (intOf i).toNat)
  case atStart => exact ⟨0, T2, Nat.zero_le _, rfl, by simpa using h2, hf2, hg2⟩
  case round =>
    obtain ⟨k, T', hk, rfl, hwr, hfr, hgr⟩ := hrel
    have hqr := hQ _ _ _ _ hq hfr hgr
    have hBr := hB.trans (hfr.below (fun b hb h => by have := hw.lo b h; omega) hBs)
    have hor := ho.fr hfr hpo
    by_cases hlt : k < hl0.length
    · have hT1 := Lib.hid (any_snocPl (bad := bad) hlt lg)
      have hT2 : Hid ((hl0.take (k + 1)).flatMap enc = (hl0.take k).flatMap enc ++ enc (atD Pl0 hl0 k)) := by
        unfold Hid
        rw [take_snocG Pl0 hl0 k hlt, List.flatMap_append]
        simp
      have hfl : ((hl0.take k).flatMap enc).length ≤ k * M := flat_le enc _ (fun x hx => hM x (List.mem_of_mem_take hx)) k (by rw [List.length_take]; omega)
      have hkM : k * M ≤ 100 * M := Nat.mul_le_mul_right M (by omega)
      have honek := hone _ (atD_mem (d := Pl0) hlt)
      obtain ⟨eb, eo, rfl, heb, hec⟩ := (rdPls.keep hh hBr).1.at_ Pl0 hlt
      have x0 : wr.cell? ⟨eb, eo + k * 2, none⟩ = some (.int .i64 (atD Pl0 hl0 k).size) := hec 0 _ rfl
      have x1 : wr.cell? ⟨eb, eo + k * 2 + 1, none⟩ = some (.int .i64 (atD Pl0 hl0 k).depth) := hec 1 _ rfl
      clear hec
      generalize atD Pl0 hl0 k = x at x0 x1 hT1 hT2 honek
      have hb3 := (Below.refl wr.heap.size wr).alloc (Nat.le_refl _) (.cells #[.int .i64 x.size, .int .i64 x.depth] 142)
      have k3 := Blk.new wr 142 #[.int .i64 x.size, .int .i64 x.depth]
      go_upto_region 5 with fail
      generalize wr.alloc (.cells #[.int .i64 x.size, .int .i64 x.depth] 142) = w3 at hb3 k3 ⊢
      have hw3 := hwr.keep hb3
      have ho3 := hor.keep hb3
      have hq3 := hQ T' T' _ _ hqr (Fr.of_below hb3 T') (fun b hb => ⟨.inl hb, Nat.lt_of_lt_of_le (hwr.bnd b hb) hb3.size⟩)
      have hB3 := hBr.trans (hb3.mono hBr.size)
      have y0 : w3.cell? ⟨wr.heap.size, 0, none⟩ = some (.int .i64 x.size) := k3.cell 0
      have y1 : w3.cell? ⟨wr.heap.size, 1, none⟩ = some (.int .i64 x.depth) := k3.cell 1
      have hl3 := k3.lt
      clear x0 x1
      go_wp2_with fail
      refine (list1_Pl (po := po) x honek hQ hq3 hw3 hB3 (by simp only [List.length_append]; omega) ho3).mono ?_
      rintro e w4 ⟨rfl, T4, h4, hf4, hg4⟩
      go_wp2_with fail
      refine ⟨⟨k + 1, T4, by omega, by go_num, ?_, hfr.grw hgr ((Fr.of_below hb3 T').trans hf4), hgr.trans hfr.size (hg4.alloc_left hb3.size)⟩, by simp [intOf]; omega⟩
      rw [hT2.out, ← hT1.out, ← List.append_assoc]
      exact h4
    · obtain rfl : k = hl0.length := by omega
      have HT : Hid (hl0.take hl0.length = hl0) := List.take_length
      rw [HT.out, List.append_assoc] at hwr
      go_wp2_with fail
      go_end0
      exact ⟨rfl, T', hwr, hfr, hgr⟩
set_option maxRecDepth 100000 in
theorem list_Pl {wa : World} {g p : Nat} {Q : (Nat → Prop) → World → Prop} {enc : Pl → List UInt8} {bad : Pl → Bool} {h : Hd Pl} {N M : Nat} (hh : rdPls.ok wa h) (hn : h.l.length ≤ 100) (hone : ∀ x ∈ h.l, OneW wa g Q 68 #[.agg #[.int .i64 x.size, .int .i64 x.depth], .pointer (some ⟨p, 0, none⟩)] N (enc x) (bad x))
    (hM : ∀ x ∈ h.l, (enc x).length ≤ M) (hN : N ≤ 60000000) {T : Nat → Prop} {W : World} {l : List UInt8} {lg : Bool}
    (hQ : Stq Q) (hq : Q T W) (hw : WrC W wa.heap.size g T l lg) (hB : Below wa.heap.size wa W) (hl : l.length + 11 + 100 * M ≤ N) :
    Calls Tryz.prog 67 #[.pointer (some ⟨g, 0, none⟩), .slice h.A h.l.length h.c, .func (.func 68) #[] #[.pointer (some ⟨p, 0, none⟩)]] W (Wro W wa.heap.size g T (l ++ (vint h.l.length ++ h.l.flatMap enc)) (lg || (decide (64 < h.l.length) || h.l.any bad))) := by
  have hb1 := (Below.refl W.heap.size W).alloc (Nat.le_refl _) (.cells #[.func (.func 68) #[] #[.pointer (some ⟨p, 0, none⟩)]] 143)
  have k1 := Blk.new W 143 #[.func (.func 68) #[] #[.pointer (some ⟨p, 0, none⟩)]]
  have hw1 := hw.keep hb1
  have hT1 : ¬ T W.heap.size := fun h => by have := hw.bnd _ h; omega
  have hq1 := hQ T T _ _ hq (Fr.of_below hb1 T) (fun b hb => ⟨.inl hb, Nat.lt_of_lt_of_le (hw.bnd b hb) hb1.size⟩)
  have hgl := hw1.lt
  go_enter Tryz.func67, Tryz.ntmps67
  go_upto_region 1 with fail
  generalize W.alloc (.cells #[.func (.func 68) #[] #[.pointer (some ⟨p, 0, none⟩)]] 143) = W1 at hb1 k1 hw1 hq1 hgl ⊢
  have hB1 := hB.trans (hb1.mono hB.size)
  have hwg := hw1
  obtain ⟨⟨v, kb, hrow, hv⟩, h6, h7, h8⟩ := hwg
  have c1 : W1.cell? ⟨g, 1, none⟩ = some (.bool lg) := kb.cell 1
  have f1 : W1.frozen? ⟨g, 1, none⟩ = false := kb.frozen 1
  have hpg : W.heap.size ≠ g := fun h => by rw [h] at hT1; exact hT1 hw.tg
  have fin : ∀ lg2 : Bool, (lg || decide (64 < h.l.length)) = lg2 → Hid (Calls Tryz.prog 124 #[.pointer (some ⟨g, 0, none⟩), .slice h.A h.l.length h.c, .func (.func 125) #[] #[.pointer (some ⟨W.heap.size, 0, none⟩)]] (W1.setCell ⟨g, 1, none⟩ (.bool lg2)) (Wro W wa.heap.size g T (l ++ (vint h.l.length ++ h.l.flatMap enc)) (lg || (decide (64 < h.l.length) || h.l.any bad)))) := fun lg2 h2 => by
    have hwn := hw1.setLong lg2
    have hfn : Fr T W1 (W1.setCell ⟨g, 1, none⟩ (.bool lg2)) := (Fr.refl T W1).setCell (p := ⟨g, 1, none⟩) (fun _ => hw.tg) _
    have hgn : Grw T T W1 (W1.setCell ⟨g, 1, none⟩ (.bool lg2)) := fun b hb => ⟨.inl hb, hwn.bnd b hb⟩
    have hBn := hB1.trans (hfn.below (fun b hb h => by have := hw.lo b h; omega) hB1.size)
    refine (put_Pl (po := W.heap.size) hh hn hone hM hN hQ (hQ _ _ _ _ hq1 hfn hgn) hwn hBn hl (k1.fr hfn hT1) hT1).mono ?_
    rintro e W9 ⟨rfl, T9, h9, hf9, hg9⟩
    refine ⟨rfl, T9, ?_, (Fr.of_below hb1 T).trans (hfn.trans hf9), (hg9.alloc_left (W0 := W1) hfn.size).alloc_left hb1.size⟩
    rw [← Bool.or_assoc, h2]
    exact h9
  cases hlg : lg with
  | true =>
    have FN := fin true (by rw [hlg]; rfl)
    rw [hlg] at c1
    clear fin hlg
    go_wp2_with fail
    refine FN.out.mono ?_
    rintro e W9 ⟨rfl, h9⟩
    go_wp2_with fail
    go_end0
    exact ⟨rfl, h9⟩
  | false =>
    rw [hlg] at c1
    have FN := fin (decide (64 < (h.l.length : Int))) (by rw [hlg, Bool.false_or]; exact decide_eq_decide.2 (by omega))
    clear fin hlg
    go_wp2_with fail
    refine FN.out.mono ?_
    rintro e W9 ⟨rfl, h9⟩
    go_wp2_with fail
    go_end0
    exact ⟨rfl, h9⟩
set_option maxRecDepth 100000 in
theorem list1_Wn {wa : World} {g p po : Nat} {Q : (Nat → Prop) → World → Prop} {enc : List UInt8} {bad : Bool} (x : Wn) {N : Nat} (hone : OneW wa g Q 74 #[.agg #[.int .i64 x.part, .int .i64 x.start, .int .i64 x.len], .pointer (some ⟨p, 0, none⟩)] N enc bad) {T : Nat → Prop} {W : World} {l : List UInt8} {lg : Bool}
    (hQ : Stq Q) (hq : Q T W) (hw : WrC W wa.heap.size g T l lg) (hB : Below wa.heap.size wa W) (hl : l.length ≤ N) (ho : Blk W po 149 #[.func (.func 74) #[] #[.pointer (some ⟨p, 0, none⟩)]]) :
    Calls Tryz.prog 127 #[.pointer (some ⟨g, 0, none⟩), .agg #[.int .i64 x.part, .int .i64 x.start, .int .i64 x.len], .pointer (some ⟨po, 0, none⟩)] W (Wro W wa.heap.size g T (l ++ enc) (lg || bad)) := by
  have hb1 := (Below.refl W.heap.size W).alloc (Nat.le_refl _) (.cells #[.int .i64 x.part, .int .i64 x.start, .int .i64 x.len] 85)
  have k1 := Blk.new W 85 #[.int .i64 x.part, .int .i64 x.start, .int .i64 x.len]
  have hw1 := hw.keep hb1
  have ho1 := ho.keep hb1
  have hq1 := hQ T T _ _ hq (Fr.of_below hb1 T) (fun b hb => ⟨.inl hb, Nat.lt_of_lt_of_le (hw.bnd b hb) hb1.size⟩)
  have hB1 := hB.trans (hb1.mono hB.size)
  go_enter Tryz.func127, Tryz.ntmps127
  go_upto_region 1 with fail
  generalize W.alloc (.cells #[.int .i64 x.part, .int .i64 x.start, .int .i64 x.len] 85) = W1 at hb1 k1 hw1 ho1 hq1 hB1 ⊢
  have c0 : W1.cell? ⟨W.heap.size, 0, none⟩ = some (.int .i64 x.part) := k1.cell 0
  have c1 : W1.cell? ⟨W.heap.size, 1, none⟩ = some (.int .i64 x.start) := k1.cell 1
  have c2 : W1.cell? ⟨W.heap.size, 2, none⟩ = some (.int .i64 x.len) := k1.cell 2
  have hl1 := k1.lt
  have hlo := ho1.lt
  have o0 : W1.cell? ⟨po, 0, none⟩ = some (.func (.func 74) #[] #[.pointer (some ⟨p, 0, none⟩)]) := ho1.cell 0
  go_wp2_with fail
  refine (hone T W1 l lg hq1 hw1 hB1 hl).mono ?_
  rintro e W2 ⟨rfl, h2⟩
  go_wp2_with fail
  go_end0
  exact Wro.below ⟨rfl, h2⟩ hb1
theorem any_snocWn {bad : Wn → Bool} {l : List Wn} {k : Nat} (h : k < l.length) (lg : Bool) : (lg || (l.take k).any bad || bad (atD Wn0 l k)) = (lg || (l.take (k + 1)).any bad) := by
  rw [take_snocG Wn0 l k h]
  simp [Bool.or_assoc]
set_option maxRecDepth 100000 in
theorem put_Wn {wa : World} {g p po : Nat} {Q : (Nat → Prop) → World → Prop} {enc : Wn → List UInt8} {bad : Wn → Bool} {h : Hd Wn} {N M : Nat} (hh : rdWns.ok wa h) (hn : h.l.length ≤ 100) (hone : ∀ x ∈ h.l, OneW wa g Q 74 #[.agg #[.int .i64 x.part, .int .i64 x.start, .int .i64 x.len], .pointer (some ⟨p, 0, none⟩)] N (enc x) (bad x))
    (hM : ∀ x ∈ h.l, (enc x).length ≤ M) (hN : N ≤ 60000000) {T : Nat → Prop} {W : World} {l : List UInt8} {lg : Bool}
    (hQ : Stq Q) (hq : Q T W) (hw : WrC W wa.heap.size g T l lg) (hB : Below wa.heap.size wa W) (hl : l.length + 11 + 100 * M ≤ N) (ho : Blk W po 149 #[.func (.func 74) #[] #[.pointer (some ⟨p, 0, none⟩)]]) (hpo : ¬ T po) :
    Calls Tryz.prog 126 #[.pointer (some ⟨g, 0, none⟩), .slice h.A h.l.length h.c, .func (.func 127) #[] #[.pointer (some ⟨po, 0, none⟩)]] W (Wro W wa.heap.size g T (l ++ (vint h.l.length ++ h.l.flatMap enc)) (lg || h.l.any bad)) := by
  have hgl := hw.lt
  have hBs := hB.size
  obtain ⟨A, c, hl0⟩ := h
  simp only at hh hn hone hM ⊢
  have hvl := vint_len (hl0.length : Int)
  go_enter Tryz.func126, Tryz.ntmps126
  go_wp2_with fail
  refine (writeIntC_any hw hBs (by omega) (n := (hl0.length : Int)) (by unfold i64; omega)).mono ?_
  rintro e w2 ⟨rfl, T2, h2, hf2, hg2⟩
  go_wp2_with fail
  go_loopw [16] (fun i wr => ∃ (k : Nat) (T' : Nat → Prop), k ≤ hl0.length ∧ i = .int .i64 (k : Int) ∧ WrC wr wa.heap.size g T' ((l ++ vint hl0.length) ++ (hl0.take k).flatMap enc) (lg || (hl0.take k).any bad) ∧ Fr T W wr ∧ Grw T T' W wr) (fun i _ => hl0.length - (intOf i).toNat)
  case atStart => exact ⟨0, T2, Nat.zero_le _, rfl, by simpa using h2, hf2, hg2⟩
  case round =>
    obtain ⟨k, T', hk, rfl, hwr, hfr, hgr⟩ := hrel
    have hqr := hQ _ _ _ _ hq hfr hgr
    have hBr := hB.trans (hfr.below (fun b hb h => by have := hw.lo b h; omega) hBs)
    have hor := ho.fr hfr hpo
    by_cases hlt : k < hl0.length
    · have hT1 := Lib.hid (any_snocWn (bad := bad) hlt lg)
      have hT2 : Hid ((hl0.take (k + 1)).flatMap enc = (hl0.take k).flatMap enc ++ enc (atD Wn0 hl0 k)) := by
        unfold Hid
        rw [take_snocG Wn0 hl0 k hlt, List.flatMap_append]
        simp
      have hfl : ((hl0.take k).flatMap enc).length ≤ k * M := flat_le enc _ (fun x hx => hM x (List.mem_of_mem_take hx)) k (by rw [List.length_take]; omega)
      have hkM : k * M ≤ 100 * M := Nat.mul_le_mul_right M (by omega)
      have honek := hone _ (atD_mem (d := Wn0) hlt)
      obtain ⟨eb, eo, rfl, heb, hec⟩ := (rdWns.keep hh hBr).1.at_ Wn0 hlt
      have x0 : wr.cell? ⟨eb, eo + k * 3, none⟩ = some (.int .i64 (atD Wn0 hl0 k).part) := hec 0 _ rfl
      have x1 : wr.cell? ⟨eb, eo + k * 3 + 1, none⟩ = some (.int .i64 (atD Wn0 hl0 k).start) := hec 1 _ rfl
      have x2 : wr.cell? ⟨eb, eo + k * 3 + 2, none⟩ = some (.int .i64 (atD Wn0 hl0 k).len) := hec 2 _ rfl
      clear hec
      generalize atD Wn0 hl0 k = x at x0 x1 x2 hT1 hT2 honek
      have hb3 := (Below.refl wr.heap.size wr).alloc (Nat.le_refl _) (.cells #[.int .i64 x.part, .int .i64 x.start, .int .i64 x.len] 85)
      have k3 := Blk.new wr 85 #[.int .i64 x.part, .int .i64 x.start, .int .i64 x.len]
      go_upto_region 5 with fail
      generalize wr.alloc (.cells #[.int .i64 x.part, .int .i64 x.start, .int .i64 x.len] 85) = w3 at hb3 k3 ⊢
      have hw3 := hwr.keep hb3
      have ho3 := hor.keep hb3
      have hq3 := hQ T' T' _ _ hqr (Fr.of_below hb3 T') (fun b hb => ⟨.inl hb, Nat.lt_of_lt_of_le (hwr.bnd b hb) hb3.size⟩)
      have hB3 := hBr.trans (hb3.mono hBr.size)
      have y0 : w3.cell? ⟨wr.heap.size, 0, none⟩ = some (.int .i64 x.part) := k3.cell 0
      have y1 : w3.cell? ⟨wr.heap.size, 1, none⟩ = some (.int .i64 x.start) := k3.cell 1
      have y2 : w3.cell? ⟨wr.heap.size, 2, none⟩ = some (.int .i64 x.len) := k3.cell 2
      have hl3 := k3.lt
      clear x0 x1 x2
      go_wp2_with fail
      refine (list1_Wn (po := po) x honek hQ hq3 hw3 hB3 (by simp only [List.length_append]; omega) ho3).mono ?_
      rintro e w4 ⟨rfl, T4, h4, hf4, hg4⟩
      go_wp2_with fail
      refine ⟨⟨k + 1, T4, by omega, by go_num, ?_, hfr.grw hgr ((Fr.of_below hb3 T').trans hf4), hgr.trans hfr.size (hg4.alloc_left hb3.size)⟩, by simp [intOf]; omega⟩
      rw [hT2.out, ← hT1.out, ← List.append_assoc]
      exact h4
    · obtain rfl : k = hl0.length := by omega
      have HT : Hid (hl0.take hl0.length = hl0) := List.take_length
      rw [HT.out, List.append_assoc] at hwr
      go_wp2_with fail
      go_end0
      exact ⟨rfl, T', hwr, hfr, hgr⟩
set_option maxRecDepth 100000 in
theorem list_Wn {wa : World} {g p : Nat} {Q : (Nat → Prop) → World → Prop} {enc : Wn → List UInt8} {bad : Wn → Bool} {h : Hd Wn} {N M : Nat} (hh : rdWns.ok wa h) (hn : h.l.length ≤ 100) (hone : ∀ x ∈ h.l, OneW wa g Q 74 #[.agg #[.int .i64 x.part, .int .i64 x.start, .int .i64 x.len], .pointer (some ⟨p, 0, none⟩)] N (enc x) (bad x))
    (hM : ∀ x ∈ h.l, (enc x).length ≤ M) (hN : N ≤ 60000000) {T : Nat → Prop} {W : World} {l : List UInt8} {lg : Bool}
    (hQ : Stq Q) (hq : Q T W) (hw : WrC W wa.heap.size g T l lg) (hB : Below wa.heap.size wa W) (hl : l.length + 11 + 100 * M ≤ N) :
    Calls Tryz.prog 73 #[.pointer (some ⟨g, 0, none⟩), .slice h.A h.l.length h.c, .func (.func 74) #[] #[.pointer (some ⟨p, 0, none⟩)]] W (Wro W wa.heap.size g T (l ++ (vint h.l.length ++ h.l.flatMap enc)) (lg || (decide (64 < h.l.length) || h.l.any bad))) := by
  have hb1 := (Below.refl W.heap.size W).alloc (Nat.le_refl _) (.cells #[.func (.func 74) #[] #[.pointer (some ⟨p, 0, none⟩)]] 149)
  have k1 := Blk.new W 149 #[.func (.func 74) #[] #[.pointer (some ⟨p, 0, none⟩)]]
  have hw1 := hw.keep hb1
  have hT1 : ¬ T W.heap.size := fun h => by have := hw.bnd _ h; omega
  have hq1 := hQ T T _ _ hq (Fr.of_below hb1 T) (fun b hb => ⟨.inl hb, Nat.lt_of_lt_of_le (hw.bnd b hb) hb1.size⟩)
  have hgl := hw1.lt
  go_enter Tryz.func73, Tryz.ntmps73
  go_upto_region 1 with fail
  generalize W.alloc (.cells #[.func (.func 74) #[] #[.pointer (some ⟨p, 0, none⟩)]] 149) = W1 at hb1 k1 hw1 hq1 hgl ⊢
  have hB1 := hB.trans (hb1.mono hB.size)
  have hwg := hw1
  obtain ⟨⟨v, kb, hrow, hv⟩, h6, h7, h8⟩ := hwg
  have c1 : W1.cell? ⟨g, 1, none⟩ = some (.bool lg) := kb.cell 1
  have f1 : W1.frozen? ⟨g, 1, none⟩ = false := kb.frozen 1
  have hpg : W.heap.size ≠ g := fun h => by rw [h] at hT1; exact hT1 hw.tg
  have fin : ∀ lg2 : Bool, (lg || decide (64 < h.l.length)) = lg2 → Hid (Calls Tryz.prog 126 #[.pointer (some ⟨g, 0, none⟩), .slice h.A h.l.length h.c, .func (.func 127) #[] #[.pointer (some ⟨W.heap.size, 0, none⟩)]] (W1.setCell ⟨g, 1, none⟩ (.bool lg2)) (Wro W wa.heap.size g T (l ++ (vint h.l.length ++ h.l.flatMap enc)) (lg || (decide (64 < h.l.length) || h.l.any bad)))) := fun lg2 h2 => by
    have hwn := hw1.setLong lg2
    have hfn : Fr T W1 (W1.setCell ⟨g, 1, none⟩ (.bool lg2)) := (Fr.refl T W1).setCell (p := ⟨g, 1, none⟩) (fun _ => hw.tg) _
    have hgn : Grw T T W1 (W1.setCell ⟨g, 1, none⟩ (.bool lg2)) := fun b hb => ⟨.inl hb, hwn.bnd b hb⟩
    have hBn := hB1.trans (hfn.below (fun b hb h => by have := hw.lo b h; omega) hB1.size)
    refine (put_Wn (po := W.heap.size) hh hn hone hM hN hQ (hQ _ _ _ _ hq1 hfn hgn) hwn hBn hl (k1.fr hfn hT1) hT1).mono ?_
    rintro e W9 ⟨rfl, T9, h9, hf9, hg9⟩
    refine ⟨rfl, T9, ?_, (Fr.of_below hb1 T).trans (hfn.trans hf9), (hg9.alloc_left (W0 := W1) hfn.size).alloc_left hb1.size⟩
    rw [← Bool.or_assoc, h2]
    exact h9
  cases hlg : lg with
  | true =>
    have FN := fin true (by rw [hlg]; rfl)
    rw [hlg] at c1
    clear fin hlg
    go_wp2_with fail
    refine FN.out.mono ?_
    rintro e W9 ⟨rfl, h9⟩
    go_wp2_with fail
    go_end0
    exact ⟨rfl, h9⟩
  | false =>
    rw [hlg] at c1
    have FN := fin (decide (64 < (h.l.length : Int))) (by rw [hlg, Bool.false_or]; exact decide_eq_decide.2 (by omega))
    clear fin hlg
    go_wp2_with fail
    refine FN.out.mono ?_
    rintro e W9 ⟨rfl, h9⟩
    go_wp2_with fail
    go_end0
    exact ⟨rfl, h9⟩
set_option maxRecDepth 100000 in
theorem list1_Lv {wa : World} {g p po : Nat} {Q : (Nat → Prop) → World → Prop} {enc : List UInt8} {bad : Bool} (x : Lv) {N : Nat} (hone : OneW wa g Q 76 #[.agg #[.int .i64 x.freq, .int .i64 x.power], .pointer (some ⟨p, 0, none⟩)] N enc bad) {T : Nat → Prop} {W : World} {l : List UInt8} {lg : Bool}
    (hQ : Stq Q) (hq : Q T W) (hw : WrC W wa.heap.size g T l lg) (hB : Below wa.heap.size wa W) (hl : l.length ≤ N) (ho : Blk W po 151 #[.func (.func 76) #[] #[.pointer (some ⟨p, 0, none⟩)]]) :
    Calls Tryz.prog 129 #[.pointer (some ⟨g, 0, none⟩), .agg #[.int .i64 x.freq, .int .i64 x.power], .pointer (some ⟨po, 0, none⟩)] W (Wro W wa.heap.size g T (l ++ enc) (lg || bad)) := by
  have hb1 := (Below.refl W.heap.size W).alloc (Nat.le_refl _) (.cells #[.int .i64 x.freq, .int .i64 x.power] 87)
  have k1 := Blk.new W 87 #[.int .i64 x.freq, .int .i64 x.power]
  have hw1 := hw.keep hb1
  have ho1 := ho.keep hb1
  have hq1 := hQ T T _ _ hq (Fr.of_below hb1 T) (fun b hb => ⟨.inl hb, Nat.lt_of_lt_of_le (hw.bnd b hb) hb1.size⟩)
  have hB1 := hB.trans (hb1.mono hB.size)
  go_enter Tryz.func129, Tryz.ntmps129
  go_upto_region 1 with fail
  generalize W.alloc (.cells #[.int .i64 x.freq, .int .i64 x.power] 87) = W1 at hb1 k1 hw1 ho1 hq1 hB1 ⊢
  have c0 : W1.cell? ⟨W.heap.size, 0, none⟩ = some (.int .i64 x.freq) := k1.cell 0
  have c1 : W1.cell? ⟨W.heap.size, 1, none⟩ = some (.int .i64 x.power) := k1.cell 1
  have hl1 := k1.lt
  have hlo := ho1.lt
  have o0 : W1.cell? ⟨po, 0, none⟩ = some (.func (.func 76) #[] #[.pointer (some ⟨p, 0, none⟩)]) := ho1.cell 0
  go_wp2_with fail
  refine (hone T W1 l lg hq1 hw1 hB1 hl).mono ?_
  rintro e W2 ⟨rfl, h2⟩
  go_wp2_with fail
  go_end0
  exact Wro.below ⟨rfl, h2⟩ hb1
theorem any_snocLv {bad : Lv → Bool} {l : List Lv} {k : Nat} (h : k < l.length) (lg : Bool) : (lg || (l.take k).any bad || bad (atD Lv0 l k)) = (lg || (l.take (k + 1)).any bad) := by
  rw [take_snocG Lv0 l k h]
  simp [Bool.or_assoc]
set_option maxRecDepth 100000 in
theorem put_Lv {wa : World} {g p po : Nat} {Q : (Nat → Prop) → World → Prop} {enc : Lv → List UInt8} {bad : Lv → Bool} {h : Hd Lv} {N M : Nat} (hh : rdLvs.ok wa h) (hn : h.l.length ≤ 100) (hone : ∀ x ∈ h.l, OneW wa g Q 76 #[.agg #[.int .i64 x.freq, .int .i64 x.power], .pointer (some ⟨p, 0, none⟩)] N (enc x) (bad x))
    (hM : ∀ x ∈ h.l, (enc x).length ≤ M) (hN : N ≤ 60000000) {T : Nat → Prop} {W : World} {l : List UInt8} {lg : Bool}
    (hQ : Stq Q) (hq : Q T W) (hw : WrC W wa.heap.size g T l lg) (hB : Below wa.heap.size wa W) (hl : l.length + 11 + 100 * M ≤ N) (ho : Blk W po 151 #[.func (.func 76) #[] #[.pointer (some ⟨p, 0, none⟩)]]) (hpo : ¬ T po) :
    Calls Tryz.prog 128 #[.pointer (some ⟨g, 0, none⟩), .slice h.A h.l.length h.c, .func (.func 129) #[] #[.pointer (some ⟨po, 0, none⟩)]] W (Wro W wa.heap.size g T (l ++ (vint h.l.length ++ h.l.flatMap enc)) (lg || h.l.any bad)) := by
  have hgl := hw.lt
  have hBs := hB.size
  obtain ⟨A, c, hl0⟩ := h
  simp only at hh hn hone hM ⊢
  have hvl := vint_len (hl0.length : Int)
  go_enter Tryz.func128, Tryz.ntmps128
  go_wp2_with fail
  refine (writeIntC_any hw hBs (by omega) (n := (hl0.length : Int)) (by unfold i64; omega)).mono ?_
  rintro e w2 ⟨rfl, T2, h2, hf2, hg2⟩
  go_wp2_with fail
  go_loopw [16] (fun i wr => ∃ (k : Nat) (T' : Nat → Prop), k ≤ hl0.length ∧ i = .int .i64 (k : Int) ∧ WrC wr wa.heap.size g T' ((l ++ vint hl0.length) ++ (hl0.take k).flatMap enc) (lg || (hl0.take k).any bad) ∧ Fr T W wr ∧ Grw T T' W wr) (fun i _ => hl0.length - (intOf i).toNat)
  case atStart => exact ⟨0, T2, Nat.zero_le _, rfl, by simpa using h2, hf2, hg2⟩
  case round =>
    obtain ⟨k, T', hk, rfl, hwr, hfr, hgr⟩ := hrel
    have hqr := hQ _ _ _ _ hq hfr hgr
    have hBr := hB.trans (hfr.below (fun b hb h => by have := hw.lo b h; omega) hBs)
    have hor := ho.fr hfr hpo
    by_cases hlt : k < hl0.length
    · have hT1 := Lib.hid (any_snocLv (bad := bad) hlt lg)
      have hT2 : Hid ((hl0.take (k + 1)).flatMap enc = (hl0.take k).flatMap enc ++ enc (atD Lv0 hl0 k)) := by
        unfold Hid
        rw [take_snocG Lv0 hl0 k hlt, List.flatMap_append]
        simp
      have hfl : ((hl0.take k).flatMap enc).length ≤ k * M := flat_le enc _ (fun x hx => hM x (List.mem_of_mem_take hx)) k (by rw [List.length_take]; omega)
      have hkM : k * M ≤ 100 * M := Nat.mul_le_mul_right M (by omega)
      have honek := hone _ (atD_mem (d := Lv0) hlt)
      obtain ⟨eb, eo, rfl, heb, hec⟩ := (rdLvs.keep hh hBr).1.at_ Lv0 hlt
      have x0 : wr.cell? ⟨eb, eo + k * 2, none⟩ = some (.int .i64 (atD Lv0 hl0 k).freq) := hec 0 _ rfl
      have x1 : wr.cell? ⟨eb, eo + k * 2 + 1, none⟩ = some (.int .i64 (atD Lv0 hl0 k).power) := hec 1 _ rfl
      clear hec
      generalize atD Lv0 hl0 k = x at x0 x1 hT1 hT2 honek
      have hb3 := (Below.refl wr.heap.size wr).alloc (Nat.le_refl _) (.cells #[.int .i64 x.freq, .int .i64 x.power] 87)
      have k3 := Blk.new wr 87 #[.int .i64 x.freq, .int .i64 x.power]
      go_upto_region 5 with fail
      generalize wr.alloc (.cells #[.int .i64 x.freq, .int .i64 x.power] 87) = w3 at hb3 k3 ⊢
      have hw3 := hwr.keep hb3
      have ho3 := hor.keep hb3
      have hq3 := hQ T' T' _ _ hqr (Fr.of_below hb3 T') (fun b hb => ⟨.inl hb, Nat.lt_of_lt_of_le (hwr.bnd b hb) hb3.size⟩)
      have hB3 := hBr.trans (hb3.mono hBr.size)
      have y0 : w3.cell? ⟨wr.heap.size, 0, none⟩ = some (.int .i64 x.freq) := k3.cell 0
      have y1 : w3.cell? ⟨wr.heap.size, 1, none⟩ = some (.int .i64 x.power) := k3.cell 1
      have hl3 := k3.lt
      clear x0 x1
      go_wp2_with fail
      refine (list1_Lv (po := po) x honek hQ hq3 hw3 hB3 (by simp only [List.length_append]; omega) ho3).mono ?_
      rintro e w4 ⟨rfl, T4, h4, hf4, hg4⟩
      go_wp2_with fail
      refine ⟨⟨k + 1, T4, by omega, by go_num, ?_, hfr.grw hgr ((Fr.of_below hb3 T').trans hf4), hgr.trans hfr.size (hg4.alloc_left hb3.size)⟩, by simp [intOf]; omega⟩
      rw [hT2.out, ← hT1.out, ← List.append_assoc]
      exact h4
    · obtain rfl : k = hl0.length := by omega
      have HT : Hid (hl0.take hl0.length = hl0) := List.take_length
      rw [HT.out, List.append_assoc] at hwr
      go_wp2_with fail
      go_end0
      exact ⟨rfl, T', hwr, hfr, hgr⟩
set_option maxRecDepth 100000 in
theorem list_Lv {wa : World} {g p : Nat} {Q : (Nat → Prop) → World → Prop} {enc : Lv → List UInt8} {bad : Lv → Bool} {h : Hd Lv} {N M : Nat} (hh : rdLvs.ok wa h) (hn : h.l.length ≤ 100) (hone : ∀ x ∈ h.l, OneW wa g Q 76 #[.agg #[.int .i64 x.freq, .int .i64 x.power], .pointer (some ⟨p, 0, none⟩)] N (enc x) (bad x))
    (hM : ∀ x ∈ h.l, (enc x).length ≤ M) (hN : N ≤ 60000000) {T : Nat → Prop} {W : World} {l : List UInt8} {lg : Bool}
    (hQ : Stq Q) (hq : Q T W) (hw : WrC W wa.heap.size g T l lg) (hB : Below wa.heap.size wa W) (hl : l.length + 11 + 100 * M ≤ N) :
    Calls Tryz.prog 75 #[.pointer (some ⟨g, 0, none⟩), .slice h.A h.l.length h.c, .func (.func 76) #[] #[.pointer (some ⟨p, 0, none⟩)]] W (Wro W wa.heap.size g T (l ++ (vint h.l.length ++ h.l.flatMap enc)) (lg || (decide (64 < h.l.length) || h.l.any bad))) := by
  have hb1 := (Below.refl W.heap.size W).alloc (Nat.le_refl _) (.cells #[.func (.func 76) #[] #[.pointer (some ⟨p, 0, none⟩)]] 151)
  have k1 := Blk.new W 151 #[.func (.func 76) #[] #[.pointer (some ⟨p, 0, none⟩)]]
  have hw1 := hw.keep hb1
  have hT1 : ¬ T W.heap.size := fun h => by have := hw.bnd _ h; omega
  have hq1 := hQ T T _ _ hq (Fr.of_below hb1 T) (fun b hb => ⟨.inl hb, Nat.lt_of_lt_of_le (hw.bnd b hb) hb1.size⟩)
  have hgl := hw1.lt
  go_enter Tryz.func75, Tryz.ntmps75
  go_upto_region 1 with fail
  generalize W.alloc (.cells #[.func (.func 76) #[] #[.pointer (some ⟨p, 0, none⟩)]] 151) = W1 at hb1 k1 hw1 hq1 hgl ⊢
  have hB1 := hB.trans (hb1.mono hB.size)
  have hwg := hw1
  obtain ⟨⟨v, kb, hrow, hv⟩, h6, h7, h8⟩ := hwg
  have c1 : W1.cell? ⟨g, 1, none⟩ = some (.bool lg) := kb.cell 1
  have f1 : W1.frozen? ⟨g, 1, none⟩ = false := kb.frozen 1
  have hpg : W.heap.size ≠ g := fun h => by rw [h] at hT1; exact hT1 hw.tg
  have fin : ∀ lg2 : Bool, (lg || decide (64 < h.l.length)) = lg2 → Hid (Calls Tryz.prog 128 #[.pointer (some ⟨g, 0, none⟩), .slice h.A h.l.length h.c, .func (.func 129) #[] #[.pointer (some ⟨W.heap.size, 0, none⟩)]] (W1.setCell ⟨g, 1, none⟩ (.bool lg2)) (Wro W wa.heap.size g T (l ++ (vint h.l.length ++ h.l.flatMap enc)) (lg || (decide (64 < h.l.length) || h.l.any bad)))) := fun lg2 h2 => by
    have hwn := hw1.setLong lg2
    have hfn : Fr T W1 (W1.setCell ⟨g, 1, none⟩ (.bool lg2)) := (Fr.refl T W1).setCell (p := ⟨g, 1, none⟩) (fun _ => hw.tg) _
    have hgn : Grw T T W1 (W1.setCell ⟨g, 1, none⟩ (.bool lg2)) := fun b hb => ⟨.inl hb, hwn.bnd b hb⟩
    have hBn := hB1.trans (hfn.below (fun b hb h => by have := hw.lo b h; omega) hB1.size)
    refine (put_Lv (po := W.heap.size) hh hn hone hM hN hQ (hQ _ _ _ _ hq1 hfn hgn) hwn hBn hl (k1.fr hfn hT1) hT1).mono ?_
    rintro e W9 ⟨rfl, T9, h9, hf9, hg9⟩
    refine ⟨rfl, T9, ?_, (Fr.of_below hb1 T).trans (hfn.trans hf9), (hg9.alloc_left (W0 := W1) hfn.size).alloc_left hb1.size⟩
    rw [← Bool.or_assoc, h2]
    exact h9
  cases hlg : lg with
  | true =>
    have FN := fin true (by rw [hlg]; rfl)
    rw [hlg] at c1
    clear fin hlg
    go_wp2_with fail
    refine FN.out.mono ?_
    rintro e W9 ⟨rfl, h9⟩
    go_wp2_with fail
    go_end0
    exact ⟨rfl, h9⟩
  | false =>
    rw [hlg] at c1
    have FN := fin (decide (64 < (h.l.length : Int))) (by rw [hlg, Bool.false_or]; exact decide_eq_decide.2 (by omega))
    clear fin hlg
    go_wp2_with fail
    refine FN.out.mono ?_
    rintro e W9 ⟨rfl, h9⟩
    go_wp2_with fail
    go_end0
    exact ⟨rfl, h9⟩
set_option maxRecDepth 100000 in
theorem list1_Np {wa : World} {g p po : Nat} {Q : (Nat → Prop) → World → Prop} {enc : List UInt8} {bad : Bool} (x : Np) {N : Nat} (hone : OneW wa g Q 78 #[.agg #[.int .i64 x.power, .int .i64 x.enter, .int .i64 x.wake], .pointer (some ⟨p, 0, none⟩)] N enc bad) {T : Nat → Prop} {W : World} {l : List UInt8} {lg : Bool}
    (hQ : Stq Q) (hq : Q T W) (hw : WrC W wa.heap.size g T l lg) (hB : Below wa.heap.size wa W) (hl : l.length ≤ N) (ho : Blk W po 153 #[.func (.func 78) #[] #[.pointer (some ⟨p, 0, none⟩)]]) :
    Calls Tryz.prog 131 #[.pointer (some ⟨g, 0, none⟩), .agg #[.int .i64 x.power, .int .i64 x.enter, .int .i64 x.wake], .pointer (some ⟨po, 0, none⟩)] W (Wro W wa.heap.size g T (l ++ enc) (lg || bad)) := by
  have hb1 := (Below.refl W.heap.size W).alloc (Nat.le_refl _) (.cells #[.int .i64 x.power, .int .i64 x.enter, .int .i64 x.wake] 89)
  have k1 := Blk.new W 89 #[.int .i64 x.power, .int .i64 x.enter, .int .i64 x.wake]
  have hw1 := hw.keep hb1
  have ho1 := ho.keep hb1
  have hq1 := hQ T T _ _ hq (Fr.of_below hb1 T) (fun b hb => ⟨.inl hb, Nat.lt_of_lt_of_le (hw.bnd b hb) hb1.size⟩)
  have hB1 := hB.trans (hb1.mono hB.size)
  go_enter Tryz.func131, Tryz.ntmps131
  go_upto_region 1 with fail
  generalize W.alloc (.cells #[.int .i64 x.power, .int .i64 x.enter, .int .i64 x.wake] 89) = W1 at hb1 k1 hw1 ho1 hq1 hB1 ⊢
  have c0 : W1.cell? ⟨W.heap.size, 0, none⟩ = some (.int .i64 x.power) := k1.cell 0
  have c1 : W1.cell? ⟨W.heap.size, 1, none⟩ = some (.int .i64 x.enter) := k1.cell 1
  have c2 : W1.cell? ⟨W.heap.size, 2, none⟩ = some (.int .i64 x.wake) := k1.cell 2
  have hl1 := k1.lt
  have hlo := ho1.lt
  have o0 : W1.cell? ⟨po, 0, none⟩ = some (.func (.func 78) #[] #[.pointer (some ⟨p, 0, none⟩)]) := ho1.cell 0
  go_wp2_with fail
  refine (hone T W1 l lg hq1 hw1 hB1 hl).mono ?_
  rintro e W2 ⟨rfl, h2⟩
  go_wp2_with fail
  go_end0
  exact Wro.below ⟨rfl, h2⟩ hb1
theorem any_snocNp {bad : Np → Bool} {l : List Np} {k : Nat} (h : k < l.length) (lg : Bool) : (lg || (l.take k).any bad || bad (atD Np0 l k)) = (lg || (l.take (k + 1)).any bad) := by
  rw [take_snocG Np0 l k h]
  simp [Bool.or_assoc]
set_option maxRecDepth 100000 in
theorem put_Np {wa : World} {g p po : Nat} {Q : (Nat → Prop) → World → Prop} {enc : Np → List UInt8} {bad : Np → Bool} {h : Hd Np} {N M : Nat} (hh : rdNps.ok wa h) (hn : h.l.length ≤ 100) (hone : ∀ x ∈ h.l, OneW wa g Q 78 #[.agg #[.int .i64 x.power, .int .i64 x.enter, .int .i64 x.wake], .pointer (some ⟨p, 0, none⟩)] N (enc x) (bad x))
    (hM : ∀ x ∈ h.l, (enc x).length ≤ M) (hN : N ≤ 60000000) {T : Nat → Prop} {W : World} {l : List UInt8} {lg : Bool}
    (hQ : Stq Q) (hq : Q T W) (hw : WrC W wa.heap.size g T l lg) (hB : Below wa.heap.size wa W) (hl : l.length + 11 + 100 * M ≤ N) (ho : Blk W po 153 #[.func (.func 78) #[] #[.pointer (some ⟨p, 0, none⟩)]]) (hpo : ¬ T po) :
    Calls Tryz.prog 130 #[.pointer (some ⟨g, 0, none⟩), .slice h.A h.l.length h.c, .func (.func 131) #[] #[.pointer (some ⟨po, 0, none⟩)]] W (Wro W wa.heap.size g T (l ++ (vint h.l.length ++ h.l.flatMap enc)) (lg || h.l.any bad)) := by
  have hgl := hw.lt
  have hBs := hB.size
  obtain ⟨A, c, hl0⟩ := h
  simp only at hh hn hone hM ⊢
  have hvl := vint_len (hl0.length : Int)
  go_enter Tryz.func130, Tryz.ntmps130
  go_wp2_with fail
  refine (writeIntC_any hw hBs (by omega) (n := (hl0.length : Int)) (by unfold i64; omega)).mono ?_
  rintro e w2 ⟨rfl, T2, h2, hf2, hg2⟩
  go_wp2_with fail
  go_loopw [16] (fun i wr => ∃ (k : Nat) (T' : Nat → Prop), k ≤ hl0.length ∧ i = .int .i64 (k : Int) ∧ WrC wr wa.heap.size g T' ((l ++ vint hl0.length) ++ (hl0.take k).flatMap enc) (lg || (hl0.take k).any bad) ∧ Fr T W wr ∧ Grw T T' W wr) (fun i _ => hl0.length - (intOf i).toNat)
  case atStart => exact ⟨0, T2, Nat.zero_le _, rfl, by simpa using h2, hf2, hg2⟩
  case round =>
    obtain ⟨k, T', hk, rfl, hwr, hfr, hgr⟩ := hrel
    have hqr := hQ _ _ _ _ hq hfr hgr
    have hBr := hB.trans (hfr.below (fun b hb h => by have := hw.lo b h; omega) hBs)
    have hor := ho.fr hfr hpo
    by_cases hlt : k < hl0.length
    · have hT1 := Lib.hid (any_snocNp (bad := bad) hlt lg)
      have hT2 : Hid ((hl0.take (k + 1)).flatMap enc = (hl0.take k).flatMap enc ++ enc (atD Np0 hl0 k)) := by
        unfold Hid
        rw [take_snocG Np0 hl0 k hlt, List.flatMap_append]
        simp
      have hfl : ((hl0.take k).flatMap enc).length ≤ k * M := flat_le enc _ (fun x hx => hM x (List.mem_of_mem_take hx)) k (by rw [List.length_take]; omega)
      have hkM : k * M ≤ 100 * M := Nat.mul_le_mul_right M (by omega)
      have honek := hone _ (atD_mem (d := Np0) hlt)
      obtain ⟨eb, eo, rfl, heb, hec⟩ := (rdNps.keep hh hBr).1.at_ Np0 hlt
      have x0 : wr.cell? ⟨eb, eo + k * 3, none⟩ = some (.int .i64 (atD Np0 hl0 k).power) := hec 0 _ rfl
      have x1 : wr.cell? ⟨eb, eo + k * 3 + 1, none⟩ = some (.int .i64 (atD Np0 hl0 k).enter) := hec 1 _ rfl
      have x2 : wr.cell? ⟨eb, eo + k * 3 + 2, none⟩ = some (.int .i64 (atD Np0 hl0 k).wake) := hec 2 _ rfl
      clear hec
      generalize atD Np0 hl0 k = x at x0 x1 x2 hT1 hT2 honek
      have hb3 := (Below.refl wr.heap.size wr).alloc (Nat.le_refl _) (.cells #[.int .i64 x.power, .int .i64 x.enter, .int .i64 x.wake] 89)
      have k3 := Blk.new wr 89 #[.int .i64 x.power, .int .i64 x.enter, .int .i64 x.wake]
      go_upto_region 5 with fail
      generalize wr.alloc (.cells #[.int .i64 x.power, .int .i64 x.enter, .int .i64 x.wake] 89) = w3 at hb3 k3 ⊢
      have hw3 := hwr.keep hb3
      have ho3 := hor.keep hb3
      have hq3 := hQ T' T' _ _ hqr (Fr.of_below hb3 T') (fun b hb => ⟨.inl hb, Nat.lt_of_lt_of_le (hwr.bnd b hb) hb3.size⟩)
      have hB3 := hBr.trans (hb3.mono hBr.size)
      have y0 : w3.cell? ⟨wr.heap.size, 0, none⟩ = some (.int .i64 x.power) := k3.cell 0
      have y1 : w3.cell? ⟨wr.heap.size, 1, none⟩ = some (.int .i64 x.enter) := k3.cell 1
      have y2 : w3.cell? ⟨wr.heap.size, 2, none⟩ = some (.int .i64 x.wake) := k3.cell 2
      have hl3 := k3.lt
      clear x0 x1 x2
      go_wp2_with fail
      refine (list1_Np (po := po) x honek hQ hq3 hw3 hB3 (by simp only [List.length_append]; omega) ho3).mono ?_
      rintro e w4 ⟨rfl, T4, h4, hf4, hg4⟩
      go_wp2_with fail
      refine ⟨⟨k + 1, T4, by omega, by go_num, ?_, hfr.grw hgr ((Fr.of_below hb3 T').trans hf4), hgr.trans hfr.size (hg4.alloc_left hb3.size)⟩, by simp [intOf]; omega⟩
      rw [hT2.out, ← hT1.out, ← List.append_assoc]
      exact h4
    · obtain rfl : k = hl0.length := by omega
      have HT : Hid (hl0.take hl0.length = hl0) := List.take_length
      rw [HT.out, List.append_assoc] at hwr
      go_wp2_with fail
      go_end0
      exact ⟨rfl, T', hwr, hfr, hgr⟩
set_option maxRecDepth 100000 in
theorem list_Np {wa : World} {g p : Nat} {Q : (Nat → Prop) → World → Prop} {enc : Np → List UInt8} {bad : Np → Bool} {h : Hd Np} {N M : Nat} (hh : rdNps.ok wa h) (hn : h.l.length ≤ 100) (hone : ∀ x ∈ h.l, OneW wa g Q 78 #[.agg #[.int .i64 x.power, .int .i64 x.enter, .int .i64 x.wake], .pointer (some ⟨p, 0, none⟩)] N (enc x) (bad x))
    (hM : ∀ x ∈ h.l, (enc x).length ≤ M) (hN : N ≤ 60000000) {T : Nat → Prop} {W : World} {l : List UInt8} {lg : Bool}
    (hQ : Stq Q) (hq : Q T W) (hw : WrC W wa.heap.size g T l lg) (hB : Below wa.heap.size wa W) (hl : l.length + 11 + 100 * M ≤ N) :
    Calls Tryz.prog 77 #[.pointer (some ⟨g, 0, none⟩), .slice h.A h.l.length h.c, .func (.func 78) #[] #[.pointer (some ⟨p, 0, none⟩)]] W (Wro W wa.heap.size g T (l ++ (vint h.l.length ++ h.l.flatMap enc)) (lg || (decide (64 < h.l.length) || h.l.any bad))) := by
  have hb1 := (Below.refl W.heap.size W).alloc (Nat.le_refl _) (.cells #[.func (.func 78) #[] #[.pointer (some ⟨p, 0, none⟩)]] 153)
  have k1 := Blk.new W 153 #[.func (.func 78) #[] #[.pointer (some ⟨p, 0, none⟩)]]
  have hw1 := hw.keep hb1
  have hT1 : ¬ T W.heap.size := fun h => by have := hw.bnd _ h; omega
  have hq1 := hQ T T _ _ hq (Fr.of_below hb1 T) (fun b hb => ⟨.inl hb, Nat.lt_of_lt_of_le (hw.bnd b hb) hb1.size⟩)
  have hgl := hw1.lt
  go_enter Tryz.func77, Tryz.ntmps77
  go_upto_region 1 with fail
  generalize W.alloc (.cells #[.func (.func 78) #[] #[.pointer (some ⟨p, 0, none⟩)]] 153) = W1 at hb1 k1 hw1 hq1 hgl ⊢
  have hB1 := hB.trans (hb1.mono hB.size)
  have hwg := hw1
  obtain ⟨⟨v, kb, hrow, hv⟩, h6, h7, h8⟩ := hwg
  have c1 : W1.cell? ⟨g, 1, none⟩ = some (.bool lg) := kb.cell 1
  have f1 : W1.frozen? ⟨g, 1, none⟩ = false := kb.frozen 1
  have hpg : W.heap.size ≠ g := fun h => by rw [h] at hT1; exact hT1 hw.tg
  have fin : ∀ lg2 : Bool, (lg || decide (64 < h.l.length)) = lg2 → Hid (Calls Tryz.prog 130 #[.pointer (some ⟨g, 0, none⟩), .slice h.A h.l.length h.c, .func (.func 131) #[] #[.pointer (some ⟨W.heap.size, 0, none⟩)]] (W1.setCell ⟨g, 1, none⟩ (.bool lg2)) (Wro W wa.heap.size g T (l ++ (vint h.l.length ++ h.l.flatMap enc)) (lg || (decide (64 < h.l.length) || h.l.any bad)))) := fun lg2 h2 => by
    have hwn := hw1.setLong lg2
    have hfn : Fr T W1 (W1.setCell ⟨g, 1, none⟩ (.bool lg2)) := (Fr.refl T W1).setCell (p := ⟨g, 1, none⟩) (fun _ => hw.tg) _
    have hgn : Grw T T W1 (W1.setCell ⟨g, 1, none⟩ (.bool lg2)) := fun b hb => ⟨.inl hb, hwn.bnd b hb⟩
    have hBn := hB1.trans (hfn.below (fun b hb h => by have := hw.lo b h; omega) hB1.size)
    refine (put_Np (po := W.heap.size) hh hn hone hM hN hQ (hQ _ _ _ _ hq1 hfn hgn) hwn hBn hl (k1.fr hfn hT1) hT1).mono ?_
    rintro e W9 ⟨rfl, T9, h9, hf9, hg9⟩
    refine ⟨rfl, T9, ?_, (Fr.of_below hb1 T).trans (hfn.trans hf9), (hg9.alloc_left (W0 := W1) hfn.size).alloc_left hb1.size⟩
    rw [← Bool.or_assoc, h2]
    exact h9
  cases hlg : lg with
  | true =>
    have FN := fin true (by rw [hlg]; rfl)
    rw [hlg] at c1
    clear fin hlg
    go_wp2_with fail
    refine FN.out.mono ?_
    rintro e W9 ⟨rfl, h9⟩
    go_wp2_with fail
    go_end0
    exact ⟨rfl, h9⟩
  | false =>
    rw [hlg] at c1
    have FN := fin (decide (64 < (h.l.length : Int))) (by rw [hlg, Bool.false_or]; exact decide_eq_decide.2 (by omega))
    clear fin hlg
    go_wp2_with fail
    refine FN.out.mono ?_
    rintro e W9 ⟨rfl, h9⟩
    go_wp2_with fail
    go_end0
    exact ⟨rfl, h9⟩
end Go.Proofs.YtahjnonkhbpnpaaGreat
