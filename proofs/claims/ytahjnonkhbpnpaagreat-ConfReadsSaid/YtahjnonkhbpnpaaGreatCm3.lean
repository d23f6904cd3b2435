/- Words and walks for the claims of this seat, merged: CwList1, CwList2, CfgShort. -/
import Derived.Deep.DeepCutAuto
import Derived.Outline
import Derived.Test.YtahjnonkhbpnpaaGreatCm1
import Derived.Test.YtahjnonkhbpnpaaGreatCm2
/- conf's lists, written: PoolConf, Window, Level, Nap. Printed by wip/gen_cwlist.py. -/
namespace Go.Proofs.YtahjnonkhbpnpaaGreat
open Go.RowKit
set_option maxRecDepth 100000 in
theorem list1_Pl {wa : World} {g p po : Nat} {Q : (Nat → Prop) → World → Prop} {enc : List UInt8} {bad : Bool} (x : Pl) {N : Nat} (hone : OneW wa g Q 68 #[.agg #[.int .i64 x.size, .int .i64 x.depth], .pointer (some ⟨p, 0, none⟩)] N enc bad) {T : Nat → Prop} {W : World} {l : List UInt8} {lg : Bool}
    (hQ : Stq Q) (hq : Q T W) (hw : WrC W wa.heap.size g T l lg) (hB : Below wa.heap.size wa W) (hl : l.length ≤ N) (ho : Blk W po 143 #[.func (.func 68) #[] #[.pointer (some ⟨p, 0, none⟩)]]) :
    Calls Tryz.prog 125 #[.pointer (some ⟨g, 0, none⟩), .agg #[.int .i64 x.size, .int .i64 x.depth], .pointer (some ⟨po, 0, none⟩)] W (Wro W wa.heap.size g T (l ++ enc) (lg || bad)) := by
  have hb1 := (Below.refl W.heap.size W).alloc (Nat.le_refl _) (.cells #[.int .i64 x.size, .int .i64 x.depth] 142)
  have k1 := Blk.new W 142 #[.int .i64 x.size, .int .i64 x.depth]
  have hw1 := hw.keep hb1
  have ho1 := ho.keep hb1
  have hq1 := hQ T T _ _ hq (Fr.of_below hb1 T) (fun b hb => ⟨.inl hb, Nat.lt_of_lt_of_le (hw.bnd b hb) hb1.size⟩)
  have hB1 := hB.trans (hb1.mono hB.size)
  go_enter Tryz.func125, Tryz.ntmps125
  go_upto_region 1 with fail
  generalize W.alloc (.cells #[.int .i64 x.size, .int .i64 x.depth] 142) = W1 at hb1 k1 hw1 ho1 hq1 hB1 ⊢
  have c0 : W1.cell? ⟨W.heap.size, 0, none⟩ = some (.int .i64 x.size) := k1.cell 0
  have c1 : W1.cell? ⟨W.heap.size, 1, none⟩ = some (.int .i64 x.depth) := k1.cell 1
  have hl1 := k1.lt
  have hlo := ho1.lt
  have o0 : W1.cell? ⟨po, 0, none⟩ = some (.func (.func 68) #[] #[.pointer (some ⟨p, 0, none⟩)]) := ho1.cell 0
  go_wp2_with fail
  refine (hone T W1 l lg hq1 hw1 hB1 hl).mono ?_
  rintro e W2 ⟨rfl, h2⟩
  go_wp2_with fail
  go_end0
  exact Wro.below ⟨rfl, h2⟩ hb1
theorem any_snocPl {bad : Pl → Bool} {l : List Pl} {k : Nat} (h : k < l.length) (lg : Bool) : (lg || (l.take k).any bad || bad (atD Pl0 l k)) = (lg || (l.take (k + 1)).any bad) := by
  rw [take_snocG Pl0 l k h]
  simp [Bool.or_assoc]
set_option maxRecDepth 100000 in
theorem put_Pl {wa : World} {g p po : Nat} {Q : (Nat → Prop) → World → Prop} {enc : Pl → List UInt8} {bad : Pl → Bool} {h : Hd Pl} {N M : Nat} (hh : rdPls.ok wa h) (hn : h.l.length ≤ 100) (hone : ∀ x ∈ h.l, OneW wa g Q 68 #[.agg #[.int .i64 x.size, .int .i64 x.depth], .pointer (some ⟨p, 0, none⟩)] N (enc x) (bad x))
    (hM : ∀ x ∈ h.l, (enc x).length ≤ M) (hN : N ≤ 60000000) {T : Nat → Prop} {W : World} {l : List UInt8} {lg : Bool}
    (hQ : Stq Q) (hq : Q T W) (hw : WrC W wa.heap.size g T l lg) (hB : Below wa.heap.size wa W) (hl : l.length + 11 + 100 * M ≤ N) (ho : Blk W po 143 #[.func (.func 68) #[] #[.pointer (some ⟨p, 0, none⟩)]]) (hpo : ¬ T po) :
    Calls Tryz.prog 124 #[.pointer (some ⟨g, 0, none⟩), .slice h.A h.l.length h.c, .func (.func 125) #[] #[.pointer (some ⟨po, 0, none⟩)]] W (Wro W wa.heap.size g T (l ++ (vint h.l.length ++ h.l.flatMap enc)) (lg || h.l.any bad)) := by
  have hgl := hw.lt
  have hBs := hB.size
  obtain ⟨A, c, hl0⟩ := h
  simp only at hh hn hone hM ⊢
  have hvl := vint_len (hl0.length : Int)
  go_enter Tryz.func124, Tryz.ntmps124
  go_wp2_with fail
  refine (writeIntC_any hw hBs (by omega) (n := (hl0.length : Int)) (by unfold i64; omega)).mono ?_
  rintro e w2 ⟨rfl, T2, h2, hf2, hg2⟩
  go_wp2_with fail
  go_loopw [16] (fun i wr => ∃ (k : Nat) (T' : Nat → Prop), k ≤ hl0.length ∧ i = .int .i64 (k : Int) ∧ WrC wr wa.heap.size g T' ((l ++ vint hl0.length) ++ (hl0.take k).flatMap enc) (lg || (hl0.take k).any bad) ∧ Fr T W wr ∧ Grw T T' W wr) (fun i _ => hl0.length - (intOf i).toNat)
  case atStart => exact ⟨0, T2, Nat.zero_le _, rfl, by simpa using h2, hf2, hg2⟩
  case round =>
    obtain ⟨k, T', hk, rfl, hwr, hfr, hgr⟩ := hrel
    have hqr := hQ _ _ _ _ hq hfr hgr
    have hBr := hB.trans (hfr.below (fun b hb h => by have := hw.lo b h; omega) hBs)
    have hor := ho.fr hfr hpo
    by_cases hlt : k < hl0.length
    · have hT1 := Lib.hid (any_snocPl (bad := bad) hlt lg)
      have hT2 : Hid ((hl0.take (k + 1)).flatMap enc = (hl0.take k).flatMap enc ++ enc (atD Pl0 hl0 k)) := by
        unfold Hid
        rw [take_snocG Pl0 hl0 k hlt, List.flatMap_append]
        simp
      have hfl : ((hl0.take k).flatMap enc).length ≤ k * M := flat_le enc _ (fun x hx => hM x (List.mem_of_mem_take hx)) k (by rw [List.length_take]; omega)
      have hkM : k * M ≤ 100 * M := Nat.mul_le_mul_right M (by omega)
      have honek := hone _ (atD_mem (d := Pl0) hlt)
      obtain ⟨eb, eo, rfl, heb, hec⟩ := (rdPls.keep hh hBr).1.at_ Pl0 hlt
      have x0 : wr.cell? ⟨eb, eo + k * 2, none⟩ = some (.int .i64 (atD Pl0 hl0 k).size) := hec 0 _ rfl
      have x1 : wr.cell? ⟨eb, eo + k * 2 + 1, none⟩ = some (.int .i64 (atD Pl0 hl0 k).depth) := hec 1 _ rfl
      clear hec
      generalize atD Pl0 hl0 k = x at x0 x1 hT1 hT2 honek
      have hb3 := (Below.refl wr.heap.size wr).alloc (Nat.le_refl _) (.cells #[.int .i64 x.size, .int .i64 x.depth] 142)
      have k3 := Blk.new wr 142 #[.int .i64 x.size, .int .i64 x.depth]
      go_upto_region 5 with fail
      generalize wr.alloc (.cells #[.int .i64 x.size, .int .i64 x.depth] 142) = w3 at hb3 k3 ⊢
      have hw3 := hwr.keep hb3
      have ho3 := hor.keep hb3
      have hq3 := hQ T' T' _ _ hqr (Fr.of_below hb3 T') (fun b hb => ⟨.inl hb, Nat.lt_of_lt_of_le (hwr.bnd b hb) hb3.size⟩)
      have hB3 := hBr.trans (hb3.mono hBr.size)
      have y0 : w3.cell? ⟨wr.heap.size, 0, none⟩ = some (.int .i64 x.size) := k3.cell 0
      have y1 : w3.cell? ⟨wr.heap.size, 1, none⟩ = some (.int .i64 x.depth) := k3.cell 1
      have hl3 := k3.lt
      clear x0 x1
      go_wp2_with fail
      refine (list1_Pl (po := po) x honek hQ hq3 hw3 hB3 (by simp only [List.length_append]; omega) ho3).mono ?_
      rintro e w4 ⟨rfl, T4, h4, hf4, hg4⟩
      go_wp2_with fail
      refine ⟨⟨k + 1, T4, by omega, by go_num, ?_, hfr.grw hgr ((Fr.of_below hb3 T').trans hf4), hgr.trans hfr.size (hg4.alloc_left hb3.size)⟩, by simp [intOf]; omega⟩
      rw [hT2.out, ← hT1.out, ← List.append_assoc]
      exact h4
    · obtain rfl : k = hl0.length := by omega
      have HT : Hid (hl0.take hl0.length = hl0) := List.take_length
      rw [HT.out, List.append_assoc] at hwr
      go_wp2_with fail
      go_end0
      exact ⟨rfl, T', hwr, hfr, hgr⟩
set_option maxRecDepth 100000 in
theorem list_Pl {wa : World} {g p : Nat} {Q : (Nat → Prop) → World → Prop} {enc : Pl → List UInt8} {bad : Pl → Bool} {h : Hd Pl} {N M : Nat} (hh : rdPls.ok wa h) (hn : h.l.length ≤ 100) (hone : ∀ x ∈ h.l, OneW wa g Q 68 #[.agg #[.int .i64 x.size, .int .i64 x.depth], .pointer (some ⟨p, 0, none⟩)] N (enc x) (bad x))
    (hM : ∀ x ∈ h.l, (enc x).length ≤ M) (hN : N ≤ 60000000) {T : Nat → Prop} {W : World} {l : List UInt8} {lg : Bool}
    (hQ : Stq Q) (hq : Q T W) (hw : WrC W wa.heap.size g T l lg) (hB : Below wa.heap.size wa W) (hl : l.length + 11 + 100 * M ≤ N) :
    Calls Tryz.prog 67 #[.pointer (some ⟨g, 0, none⟩), .slice h.A h.l.length h.c, .func (.func 68) #[] #[.pointer (some ⟨p, 0, none⟩)]] W (Wro W wa.heap.size g T (l ++ (vint h.l.length ++ h.l.flatMap enc)) (lg || (decide (64 < h.l.length) || h.l.any bad))) := by
  have hb1 := (Below.refl W.heap.size W).alloc (Nat.le_refl _) (.cells #[.func (.func 68) #[] #[.pointer (some ⟨p, 0, none⟩)]] 143)
  have k1 := Blk.new W 143 #[.func (.func 68) #[] #[.pointer (some ⟨p, 0, none⟩)]]
  have hw1 := hw.keep hb1
  have hT1 : ¬ T W.heap.size := fun h => by have := hw.bnd _ h; omega
  have hq1 := hQ T T _ _ hq (Fr.of_below hb1 T) (fun b hb => ⟨.inl hb, Nat.lt_of_lt_of_le (hw.bnd b hb) hb1.size⟩)
  have hgl := hw1.lt
  go_enter Tryz.func67, Tryz.ntmps67
  go_upto_region 1 with fail
  generalize W.alloc (.cells #[.func (.func 68) #[] #[.pointer (some ⟨p, 0, none⟩)]] 143) = W1 at hb1 k1 hw1 hq1 hgl ⊢
  have hB1 := hB.trans (hb1.mono hB.size)
  have hwg := hw1
  obtain ⟨⟨v, kb, hrow, hv⟩, h6, h7, h8⟩ := hwg
  have c1 : W1.cell? ⟨g, 1, none⟩ = some (.bool lg) := kb.cell 1
  have f1 : W1.frozen? ⟨g, 1, none⟩ = false := kb.frozen 1
  have hpg : W.heap.size ≠ g := fun h => by rw [h] at hT1; exact hT1 hw.tg
  have fin : ∀ lg2 : Bool, (lg || decide (64 < h.l.length)) = lg2 → Hid (Calls Tryz.prog 124 #[.pointer (some ⟨g, 0, none⟩), .slice h.A h.l.length h.c, .func (.func 125) #[] #[.pointer (some ⟨W.heap.size, 0, none⟩)]] (W1.setCell ⟨g, 1, none⟩ (.bool lg2)) (Wro W wa.heap.size g T (l ++ (vint h.l.length ++ h.l.flatMap enc)) (lg || (decide (64 < h.l.length) || h.l.any bad)))) := fun lg2 h2 => by
    have hwn := hw1.setLong lg2
    have hfn : Fr T W1 (W1.setCell ⟨g, 1, none⟩ (.bool lg2)) := (Fr.refl T W1).setCell (p := ⟨g, 1, none⟩) (fun _ => hw.tg) _
    have hgn : Grw T T W1 (W1.setCell ⟨g, 1, none⟩ (.bool lg2)) := fun b hb => ⟨.inl hb, hwn.bnd b hb⟩
    have hBn := hB1.trans (hfn.below (fun b hb h => by have := hw.lo b h; omega) hB1.size)
    refine (put_Pl (po := W.heap.size) hh hn hone hM hN hQ (hQ _ _ _ _ hq1 hfn hgn) hwn hBn hl (k1.fr hfn hT1) hT1).mono ?_
    rintro e W9 ⟨rfl, T9, h9, hf9, hg9⟩
    refine ⟨rfl, T9, ?_, (Fr.of_below hb1 T).trans (hfn.trans hf9), (hg9.alloc_left (W0 := W1) hfn.size).alloc_left hb1.size⟩
    rw [← Bool.or_assoc, h2]
    exact h9
  cases hlg : lg with
  | true =>
    have FN := fin true (by rw [hlg]; rfl)
    rw [hlg] at c1
    clear fin hlg
    go_wp2_with fail
    refine FN.out.mono ?_
    rintro e W9 ⟨rfl, h9⟩
    go_wp2_with fail
    go_end0
    exact ⟨rfl, h9⟩
  | false =>
    rw [hlg] at c1
    have FN := fin (decide (64 < (h.l.length : Int))) (by rw [hlg, Bool.false_or]; exact decide_eq_decide.2 (by omega))
    clear fin hlg
    go_wp2_with fail
    refine FN.out.mono ?_
    rintro e W9 ⟨rfl, h9⟩
    go_wp2_with fail
    go_end0
    exact ⟨rfl, h9⟩
set_option maxRecDepth 100000 in
theorem list1_Wn {wa : World} {g p po : Nat} {Q : (Nat → Prop) → World → Prop} {enc : List UInt8} {bad : Bool} (x : Wn) {N : Nat} (hone : OneW wa g Q 74 #[.agg #[.int .i64 x.part, .int .i64 x.start, .int .i64 x.len], .pointer (some ⟨p, 0, none⟩)] N enc bad) {T : Nat → Prop} {W : World} {l : List UInt8} {lg : Bool}
    (hQ : Stq Q) (hq : Q T W) (hw : WrC W wa.heap.size g T l lg) (hB : Below wa.heap.size wa W) (hl : l.length ≤ N) (ho : Blk W po 149 #[.func (.func 74) #[] #[.pointer (some ⟨p, 0, none⟩)]]) :
    Calls Tryz.prog 127 #[.pointer (some ⟨g, 0, none⟩), .agg #[.int .i64 x.part, .int .i64 x.start, .int .i64 x.len], .pointer (some ⟨po, 0, none⟩)] W (Wro W wa.heap.size g T (l ++ enc) (lg || bad)) := by
  have hb1 := (Below.refl W.heap.size W).alloc (Nat.le_refl _) (.cells #[.int .i64 x.part, .int .i64 x.start, .int .i64 x.len] 85)
  have k1 := Blk.new W 85 #[.int .i64 x.part, .int .i64 x.start, .int .i64 x.len]
  have hw1 := hw.keep hb1
  have ho1 := ho.keep hb1
  have hq1 := hQ T T _ _ hq (Fr.of_below hb1 T) (fun b hb => ⟨.inl hb, Nat.lt_of_lt_of_le (hw.bnd b hb) hb1.size⟩)
  have hB1 := hB.trans (hb1.mono hB.size)
  go_enter Tryz.func127, Tryz.ntmps127
  go_upto_region 1 with fail
  generalize W.alloc (.cells #[.int .i64 x.part, .int .i64 x.start, .int .i64 x.len] 85) = W1 at hb1 k1 hw1 ho1 hq1 hB1 ⊢
  have c0 : W1.cell? ⟨W.heap.size, 0, none⟩ = some (.int .i64 x.part) := k1.cell 0
  have c1 : W1.cell? ⟨W.heap.size, 1, none⟩ = some (.int .i64 x.start) := k1.cell 1
  have c2 : W1.cell? ⟨W.heap.size, 2, none⟩ = some (.int .i64 x.len) := k1.cell 2
  have hl1 := k1.lt
  have hlo := ho1.lt
  have o0 : W1.cell? ⟨po, 0, none⟩ = some (.func (.func 74) #[] #[.pointer (some ⟨p, 0, none⟩)]) := ho1.cell 0
  go_wp2_with fail
  refine (hone T W1 l lg hq1 hw1 hB1 hl).mono ?_
  rintro e W2 ⟨rfl, h2⟩
  go_wp2_with fail
  go_end0
  exact Wro.below ⟨rfl, h2⟩ hb1
theorem any_snocWn {bad : Wn → Bool} {l : List Wn} {k : Nat} (h : k < l.length) (lg : Bool) : (lg || (l.take k).any bad || bad (atD Wn0 l k)) = (lg || (l.take (k + 1)).any bad) := by
  rw [take_snocG Wn0 l k h]
  simp [Bool.or_assoc]
set_option maxRecDepth 100000 in
theorem put_Wn {wa : World} {g p po : Nat} {Q : (Nat → Prop) → World → Prop} {enc : Wn → List UInt8} {bad : Wn → Bool} {h : Hd Wn} {N M : Nat} (hh : rdWns.ok wa h) (hn : h.l.length ≤ 100) (hone : ∀ x ∈ h.l, OneW wa g Q 74 #[.agg #[.int .i64 x.part, .int .i64 x.start, .int .i64 x.len], .pointer (some ⟨p, 0, none⟩)] N (enc x) (bad x))
    (hM : ∀ x ∈ h.l, (enc x).length ≤ M) (hN : N ≤ 60000000) {T : Nat → Prop} {W : World} {l : List UInt8} {lg : Bool}
    (hQ : Stq Q) (hq : Q T W) (hw : WrC W wa.heap.size g T l lg) (hB : Below wa.heap.size wa W) (hl : l.length + 11 + 100 * M ≤ N) (ho : Blk W po 149 #[.func (.func 74) #[] #[.pointer (some ⟨p, 0, none⟩)]]) (hpo : ¬ T po) :
    Calls Tryz.prog 126 #[.pointer (some ⟨g, 0, none⟩), .slice h.A h.l.length h.c, .func (.func 127) #[] #[.pointer (some ⟨po, 0, none⟩)]] W (Wro W wa.heap.size g T (l ++ (vint h.l.length ++ h.l.flatMap enc)) (lg || h.l.any bad)) := by
  have hgl := hw.lt
  have hBs := hB.size
  obtain ⟨A, c, hl0⟩ := h
  simp only at hh hn hone hM ⊢
  have hvl := vint_len (hl0.length : Int)
  go_enter Tryz.func126, Tryz.ntmps126
  go_wp2_with fail
  refine (writeIntC_any hw hBs (by omega) (n := (hl0.length : Int)) (by unfold i64; omega)).mono ?_
  rintro e w2 ⟨rfl, T2, h2, hf2, hg2⟩
  go_wp2_with fail
  go_loopw [16] (fun i wr => ∃ (k : Nat) (T' : Nat → Prop), k ≤ hl0.length ∧ i = .int .i64 (k : Int) ∧ WrC wr wa.heap.size g T' ((l ++ vint hl0.length) ++ (hl0.take k).flatMap enc) (lg || (hl0.take k).any bad) ∧ Fr T W wr ∧ Grw T T' W wr) (fun i _ => hl0.length - (intOf i).toNat)
  case atStart => exact ⟨0, T2, Nat.zero_le _, rfl, by simpa using h2, hf2, hg2⟩
  case round =>
    obtain ⟨k, T', hk, rfl, hwr, hfr, hgr⟩ := hrel
    have hqr := hQ _ _ _ _ hq hfr hgr
    have hBr := hB.trans (hfr.below (fun b hb h => by have := hw.lo b h; omega) hBs)
    have hor := ho.fr hfr hpo
    by_cases hlt : k < hl0.length
    · have hT1 := Lib.hid (any_snocWn (bad := bad) hlt lg)
      have hT2 : Hid ((hl0.take (k + 1)).flatMap enc = (hl0.take k).flatMap enc ++ enc (atD Wn0 hl0 k)) := by
        unfold Hid
        rw [take_snocG Wn0 hl0 k hlt, List.flatMap_append]
        simp
      have hfl : ((hl0.take k).flatMap enc).length ≤ k * M := flat_le enc _ (fun x hx => hM x (List.mem_of_mem_take hx)) k (by rw [List.length_take]; omega)
      have hkM : k * M ≤ 100 * M := Nat.mul_le_mul_right M (by omega)
      have honek := hone _ (atD_mem (d := Wn0) hlt)
      obtain ⟨eb, eo, rfl, heb, hec⟩ := (rdWns.keep hh hBr).1.at_ Wn0 hlt
      have x0 : wr.cell? ⟨eb, eo + k * 3, none⟩ = some (.int .i64 (atD Wn0 hl0 k).part) := hec 0 _ rfl
      have x1 : wr.cell? ⟨eb, eo + k * 3 + 1, none⟩ = some (.int .i64 (atD Wn0 hl0 k).start) := hec 1 _ rfl
      have x2 : wr.cell? ⟨eb, eo + k * 3 + 2, none⟩ = some (.int .i64 (atD Wn0 hl0 k).len) := hec 2 _ rfl
      clear hec
      generalize atD Wn0 hl0 k = x at x0 x1 x2 hT1 hT2 honek
      have hb3 := (Below.refl wr.heap.size wr).alloc (Nat.le_refl _) (.cells #[.int .i64 x.part, .int .i64 x.start, .int .i64 x.len] 85)
      have k3 := Blk.new wr 85 #[.int .i64 x.part, .int .i64 x.start, .int .i64 x.len]
      go_upto_region 5 with fail
      generalize wr.alloc (.cells #[.int .i64 x.part, .int .i64 x.start, .int .i64 x.len] 85) = w3 at hb3 k3 ⊢
      have hw3 := hwr.keep hb3
      have ho3 := hor.keep hb3
      have hq3 := hQ T' T' _ _ hqr (Fr.of_below hb3 T') (fun b hb => ⟨.inl hb, Nat.lt_of_lt_of_le (hwr.bnd b hb) hb3.size⟩)
      have hB3 := hBr.trans (hb3.mono hBr.size)
      have y0 : w3.cell? ⟨wr.heap.size, 0, none⟩ = some (.int .i64 x.part) := k3.cell 0
      have y1 : w3.cell? ⟨wr.heap.size, 1, none⟩ = some (.int .i64 x.start) := k3.cell 1
      have y2 : w3.cell? ⟨wr.heap.size, 2, none⟩ = some (.int .i64 x.len) := k3.cell 2
      have hl3 := k3.lt
      clear x0 x1 x2
      go_wp2_with fail
      refine (list1_Wn (po := po) x honek hQ hq3 hw3 hB3 (by simp only [List.length_append]; omega) ho3).mono ?_
      rintro e w4 ⟨rfl, T4, h4, hf4, hg4⟩
      go_wp2_with fail
      refine ⟨⟨k + 1, T4, by omega, by go_num, ?_, hfr.grw hgr ((Fr.of_below hb3 T').trans hf4), hgr.trans hfr.size (hg4.alloc_left hb3.size)⟩, by simp [intOf]; omega⟩
      rw [hT2.out, ← hT1.out, ← List.append_assoc]
      exact h4
    · obtain rfl : k = hl0.length := by omega
      have HT : Hid (hl0.take hl0.length = hl0) := List.take_length
      rw [HT.out, List.append_assoc] at hwr
      go_wp2_with fail
      go_end0
      exact ⟨rfl, T', hwr, hfr, hgr⟩
set_option maxRecDepth 100000 in
theorem list_Wn {wa : World} {g p : Nat} {Q : (Nat → Prop) → World → Prop} {enc : Wn → List UInt8} {bad : Wn → Bool} {h : Hd Wn} {N M : Nat} (hh : rdWns.ok wa h) (hn : h.l.length ≤ 100) (hone : ∀ x ∈ h.l, OneW wa g Q 74 #[.agg #[.int .i64 x.part, .int .i64 x.start, .int .i64 x.len], .pointer (some ⟨p, 0, none⟩)] N (enc x) (bad x))
    (hM : ∀ x ∈ h.l, (enc x).length ≤ M) (hN : N ≤ 60000000) {T : Nat → Prop} {W : World} {l : List UInt8} {lg : Bool}
    (hQ : Stq Q) (hq : Q T W) (hw : WrC W wa.heap.size g T l lg) (hB : Below wa.heap.size wa W) (hl : l.length + 11 + 100 * M ≤ N) :
    Calls Tryz.prog 73 #[.pointer (some ⟨g, 0, none⟩), .slice h.A h.l.length h.c, .func (.func 74) #[] #[.pointer (some ⟨p, 0, none⟩)]] W (Wro W wa.heap.size g T (l ++ (vint h.l.length ++ h.l.flatMap enc)) (lg || (decide (64 < h.l.length) || h.l.any bad))) := by
  have hb1 := (Below.refl W.heap.size W).alloc (Nat.le_refl _) (.cells #[.func (.func 74) #[] #[.pointer (some ⟨p, 0, none⟩)]] 149)
  have k1 := Blk.new W 149 #[.func (.func 74) #[] #[.pointer (some ⟨p, 0, none⟩)]]
  have hw1 := hw.keep hb1
  have hT1 : ¬ T W.heap.size := fun h => by have := hw.bnd _ h; omega
  have hq1 := hQ T T _ _ hq (Fr.of_below hb1 T) (fun b hb => ⟨.inl hb, Nat.lt_of_lt_of_le (hw.bnd b hb) hb1.size⟩)
  have hgl := hw1.lt
  go_enter Tryz.func73, Tryz.ntmps73
  go_upto_region 1 with fail
  generalize W.alloc (.cells #[.func (.func 74) #[] #[.pointer (some ⟨p, 0, none⟩)]] 149) = W1 at hb1 k1 hw1 hq1 hgl ⊢
  have hB1 := hB.trans (hb1.mono hB.size)
  have hwg := hw1
  obtain ⟨⟨v, kb, hrow, hv⟩, h6, h7, h8⟩ := hwg
  have c1 : W1.cell? ⟨g, 1, none⟩ = some (.bool lg) := kb.cell 1
  have f1 : W1.frozen? ⟨g, 1, none⟩ = false := kb.frozen 1
  have hpg : W.heap.size ≠ g := fun h => by rw [h] at hT1; exact hT1 hw.tg
  have fin : ∀ lg2 : Bool, (lg || decide (64 < h.l.length)) = lg2 → Hid (Calls Tryz.prog 126 #[.pointer (some ⟨g, 0, none⟩), .slice h.A h.l.length h.c, .func (.func 127) #[] #[.pointer (some ⟨W.heap.size, 0, none⟩)]] (W1.setCell ⟨g, 1, none⟩ (.bool lg2)) (Wro W wa.heap.size g T (l ++ (vint h.l.length ++ h.l.flatMap enc)) (lg || (decide (64 < h.l.length) || h.l.any bad)))) := fun lg2 h2 => by
    have hwn := hw1.setLong lg2
    have hfn : Fr T W1 (W1.setCell ⟨g, 1, none⟩ (.bool lg2)) := (Fr.refl T W1).setCell (p := ⟨g, 1, none⟩) (fun _ => hw.tg) _
    have hgn : Grw T T W1 (W1.setCell ⟨g, 1, none⟩ (.bool lg2)) := fun b hb => ⟨.inl hb, hwn.bnd b hb⟩
    have hBn := hB1.trans (hfn.below (fun b hb h => by have := hw.lo b h; omega) hB1.size)
    refine (put_Wn (po := W.heap.size) hh hn hone hM hN hQ (hQ _ _ _ _ hq1 hfn hgn) hwn hBn hl (k1.fr hfn hT1) hT1).mono ?_
    rintro e W9 ⟨rfl, T9, h9, hf9, hg9⟩
    refine ⟨rfl, T9, ?_, (Fr.of_below hb1 T).trans (hfn.trans hf9), (hg9.alloc_left (W0 := W1) hfn.size).alloc_left hb1.size⟩
    rw [← Bool.or_assoc, h2]
    exact h9
  cases hlg : lg with
  | true =>
    have FN := fin true (by rw [hlg]; rfl)
    rw [hlg] at c1
    clear fin hlg
    go_wp2_with fail
    refine FN.out.mono ?_
    rintro e W9 ⟨rfl, h9⟩
    go_wp2_with fail
    go_end0
    exact ⟨rfl, h9⟩
  | false =>
    rw [hlg] at c1
    have FN := fin (decide (64 < (h.l.length : Int))) (by rw [hlg, Bool.false_or]; exact decide_eq_decide.2 (by omega))
    clear fin hlg
    go_wp2_with fail
    refine FN.out.mono ?_
    rintro e W9 ⟨rfl, h9⟩
    go_wp2_with fail
    go_end0
    exact ⟨rfl, h9⟩
set_option maxRecDepth 100000 in
theorem list1_Lv {wa : World} {g p po : Nat} {Q : (Nat → Prop) → World → Prop} {enc : List UInt8} {bad : Bool} (x : Lv) {N : Nat} (hone : OneW wa g Q 76 #[.agg #[.int .i64 x.freq, .int .i64 x.power], .pointer (some ⟨p, 0, none⟩)] N enc bad) {T : Nat → Prop} {W : World} {l : List UInt8} {lg : Bool}
    (hQ : Stq Q) (hq : Q T W) (hw : WrC W wa.heap.size g T l lg) (hB : Below wa.heap.size wa W) (hl : l.length ≤ N) (ho : Blk W po 151 #[.func (.func 76) #[] #[.pointer (some ⟨p, 0, none⟩)]]) :
    Calls Tryz.prog 129 #[.pointer (some ⟨g, 0, none⟩), .agg #[.int .i64 x.freq, .int .i64 x.power], .pointer (some ⟨po, 0, none⟩)] W (Wro W wa.heap.size g T (l ++ enc) (lg || bad)) := by
  have hb1 := (Below.refl W.heap.size W).alloc (Nat.le_refl _) (.cells #[.int .i64 x.freq, .int .i64 x.power] 87)
  have k1 := Blk.new W 87 #[.int .i64 x.freq, .int .i64 x.power]
  have hw1 := hw.keep hb1
  have ho1 := ho.keep hb1
  have hq1 := hQ T T _ _ hq (Fr.of_below hb1 T) (fun b hb => ⟨.inl hb, Nat.lt_of_lt_of_le (hw.bnd b hb) hb1.size⟩)
  have hB1 := hB.trans (hb1.mono hB.size)
  go_enter Tryz.func129, Tryz.ntmps129
  go_upto_region 1 with fail
  generalize W.alloc (.cells #[.int .i64 x.freq, .int .i64 x.power] 87) = W1 at hb1 k1 hw1 ho1 hq1 hB1 ⊢
  have c0 : W1.cell? ⟨W.heap.size, 0, none⟩ = some (.int .i64 x.freq) := k1.cell 0
  have c1 : W1.cell? ⟨W.heap.size, 1, none⟩ = some (.int .i64 x.power) := k1.cell 1
  have hl1 := k1.lt
  have hlo := ho1.lt
  have o0 : W1.cell? ⟨po, 0, none⟩ = some (.func (.func 76) #[] #[.pointer (some ⟨p, 0, none⟩)]) := ho1.cell 0
  go_wp2_with fail
  refine (hone T W1 l lg hq1 hw1 hB1 hl).mono ?_
  rintro e W2 ⟨rfl, h2⟩
  go_wp2_with fail
  go_end0
  exact Wro.below ⟨rfl, h2⟩ hb1
theorem any_snocLv {bad : Lv → Bool} {l : List Lv} {k : Nat} (h : k < l.length) (lg : Bool) : (lg || (l.take k).any bad || bad (atD Lv0 l k)) = (lg || (l.take (k + 1)).any bad) := by
  rw [take_snocG Lv0 l k h]
  simp [Bool.or_assoc]
set_option maxRecDepth 100000 in
theorem put_Lv {wa : World} {g p po : Nat} {Q : (Nat → Prop) → World → Prop} {enc : Lv → List UInt8} {bad : Lv → Bool} {h : Hd Lv} {N M : Nat} (hh : rdLvs.ok wa h) (hn : h.l.length ≤ 100) (hone : ∀ x ∈ h.l, OneW wa g Q 76 #[.agg #[.int .i64 x.freq, .int .i64 x.power], .pointer (some ⟨p, 0, none⟩)] N (enc x) (bad x))
    (hM : ∀ x ∈ h.l, (enc x).length ≤ M) (hN : N ≤ 60000000) {T : Nat → Prop} {W : World} {l : List UInt8} {lg : Bool}
    (hQ : Stq Q) (hq : Q T W) (hw : WrC W wa.heap.size g T l lg) (hB : Below wa.heap.size wa W) (hl : l.length + 11 + 100 * M ≤ N) (ho : Blk W po 151 #[.func (.func 76) #[] #[.pointer (some ⟨p, 0, none⟩)]]) (hpo : ¬ T po) :
    Calls Tryz.prog 128 #[.pointer (some ⟨g, 0, none⟩), .slice h.A h.l.length h.c, .func (.func 129) #[] #[.pointer (some ⟨po, 0, none⟩)]] W (Wro W wa.heap.size g T (l ++ (vint h.l.length ++ h.l.flatMap enc)) (lg || h.l.any bad)) := by
  have hgl := hw.lt
  have hBs := hB.size
  obtain ⟨A, c, hl0⟩ := h
  simp only at hh hn hone hM ⊢
  have hvl := vint_len (hl0.length : Int)
  go_enter Tryz.func128, Tryz.ntmps128
  go_wp2_with fail
  refine (writeIntC_any hw hBs (by omega) (n := (hl0.length : Int)) (by unfold i64; omega)).mono ?_
  rintro e w2 ⟨rfl, T2, h2, hf2, hg2⟩
  go_wp2_with fail
  go_loopw [16] (fun i wr => ∃ (k : Nat) (T' : Nat → Prop), k ≤ hl0.length ∧ i = .int .i64 (k : Int) ∧ WrC wr wa.heap.size g T' ((l ++ vint hl0.length) ++ (hl0.take k).flatMap enc) (lg || (hl0.take k).any bad) ∧ Fr T W wr ∧ Grw T T' W wr) (fun i _ => hl0.length - (intOf i).toNat)
  case atStart => exact ⟨0, T2, Nat.zero_le _, rfl, by simpa using h2, hf2, hg2⟩
  case round =>
    obtain ⟨k, T', hk, rfl, hwr, hfr, hgr⟩ := hrel
    have hqr := hQ _ _ _ _ hq hfr hgr
    have hBr := hB.trans (hfr.below (fun b hb h => by have := hw.lo b h; omega) hBs)
    have hor := ho.fr hfr hpo
    by_cases hlt : k < hl0.length
    · have hT1 := Lib.hid (any_snocLv (bad := bad) hlt lg)
      have hT2 : Hid ((hl0.take (k + 1)).flatMap enc = (hl0.take k).flatMap enc ++ enc (atD Lv0 hl0 k)) := by
        unfold Hid
        rw [take_snocG Lv0 hl0 k hlt, List.flatMap_append]
        simp
      have hfl : ((hl0.take k).flatMap enc).length ≤ k * M := flat_le enc _ (fun x hx => hM x (List.mem_of_mem_take hx)) k (by rw [List.length_take]; omega)
      have hkM : k * M ≤ 100 * M := Nat.mul_le_mul_right M (by omega)
      have honek := hone _ (atD_mem (d := Lv0) hlt)
      obtain ⟨eb, eo, rfl, heb, hec⟩ := (rdLvs.keep hh hBr).1.at_ Lv0 hlt
      have x0 : wr.cell? ⟨eb, eo + k * 2, none⟩ = some (.int .i64 (atD Lv0 hl0 k).freq) := hec 0 _ rfl
      have x1 : wr.cell? ⟨eb, eo + k * 2 + 1, none⟩ = some (.int .i64 (atD Lv0 hl0 k).power) := hec 1 _ rfl
      clear hec
      generalize atD Lv0 hl0 k = x at x0 x1 hT1 hT2 honek
      have hb3 := (Below.refl wr.heap.size wr).alloc (Nat.le_refl _) (.cells #[.int .i64 x.freq, .int .i64 x.power] 87)
      have k3 := Blk.new wr 87 #[.int .i64 x.freq, .int .i64 x.power]
      go_upto_region 5 with fail
      generalize wr.alloc (.cells #[.int .i64 x.freq, .int .i64 x.power] 87) = w3 at hb3 k3 ⊢
      have hw3 := hwr.keep hb3
      have ho3 := hor.keep hb3
      have hq3 := hQ T' T' _ _ hqr (Fr.of_below hb3 T') (fun b hb => ⟨.inl hb, Nat.lt_of_lt_of_le (hwr.bnd b hb) hb3.size⟩)
      have hB3 := hBr.trans (hb3.mono hBr.size)
      have y0 : w3.cell? ⟨wr.heap.size, 0, none⟩ = some (.int .i64 x.freq) := k3.cell 0
      have y1 : w3.cell? ⟨wr.heap.size, 1, none⟩ = some (.int .i64 x.power) := k3.cell 1
      have hl3 := k3.lt
      clear x0 x1
      go_wp2_with fail
      refine (list1_Lv (po := po) x honek hQ hq3 hw3 hB3 (by simp only [List.length_append]; omega) ho3).mono ?_
      rintro e w4 ⟨rfl, T4, h4, hf4, hg4⟩
      go_wp2_with fail
      refine ⟨⟨k + 1, T4, by omega, by go_num, ?_, hfr.grw hgr ((Fr.of_below hb3 T').trans hf4), hgr.trans hfr.size (hg4.alloc_left hb3.size)⟩, by simp [intOf]; omega⟩
      rw [hT2.out, ← hT1.out, ← List.append_assoc]
      exact h4
    · obtain rfl : k = hl0.length := by omega
      have HT : Hid (hl0.take hl0.length = hl0) := List.take_length
      rw [HT.out, List.append_assoc] at hwr
      go_wp2_with fail
      go_end0
      exact ⟨rfl, T', hwr, hfr, hgr⟩
set_option maxRecDepth 100000 in
theorem list_Lv {wa : World} {g p : Nat} {Q : (Nat → Prop) → World → Prop} {enc : Lv → List UInt8} {bad : Lv → Bool} {h : Hd Lv} {N M : Nat} (hh : rdLvs.ok wa h) (hn : h.l.length ≤ 100) (hone : ∀ x ∈ h.l, OneW wa g Q 76 #[.agg #[.int .i64 x.freq, .int .i64 x.power], .pointer (some ⟨p, 0, none⟩)] N (enc x) (bad x))
    (hM : ∀ x ∈ h.l, (enc x).length ≤ M) (hN : N ≤ 60000000) {T : Nat → Prop} {W : World} {l : List UInt8} {lg : Bool}
    (hQ : Stq Q) (hq : Q T W) (hw : WrC W wa.heap.size g T l lg) (hB : Below wa.heap.size wa W) (hl : l.length + 11 + 100 * M ≤ N) :
    Calls Tryz.prog 75 #[.pointer (some ⟨g, 0, none⟩), .slice h.A h.l.length h.c, .func (.func 76) #[] #[.pointer (some ⟨p, 0, none⟩)]] W (Wro W wa.heap.size g T (l ++ (vint h.l.length ++ h.l.flatMap enc)) (lg || (decide (64 < h.l.length) || h.l.any bad))) := by
  have hb1 := (Below.refl W.heap.size W).alloc (Nat.le_refl _) (.cells #[.func (.func 76) #[] #[.pointer (some ⟨p, 0, none⟩)]] 151)
  have k1 := Blk.new W 151 #[.func (.func 76) #[] #[.pointer (some ⟨p, 0, none⟩)]]
  have hw1 := hw.keep hb1
  have hT1 : ¬ T W.heap.size := fun h => by have := hw.bnd _ h; omega
  have hq1 := hQ T T _ _ hq (Fr.of_below hb1 T) (fun b hb => ⟨.inl hb, Nat.lt_of_lt_of_le (hw.bnd b hb) hb1.size⟩)
  have hgl := hw1.lt
  go_enter Tryz.func75, Tryz.ntmps75
  go_upto_region 1 with fail
  generalize W.alloc (.cells #[.func (.func 76) #[] #[.pointer (some ⟨p, 0, none⟩)]] 151) = W1 at hb1 k1 hw1 hq1 hgl ⊢
  have hB1 := hB.trans (hb1.mono hB.size)
  have hwg := hw1
  obtain ⟨⟨v, kb, hrow, hv⟩, h6, h7, h8⟩ := hwg
  have c1 : W1.cell? ⟨g, 1, none⟩ = some (.bool lg) := kb.cell 1
  have f1 : W1.frozen? ⟨g, 1, none⟩ = false := kb.frozen 1
  have hpg : W.heap.size ≠ g := fun h => by rw [h] at hT1; exact hT1 hw.tg
  have fin : ∀ lg2 : Bool, (lg || decide (64 < h.l.length)) = lg2 → Hid (Calls Tryz.prog 128 #[.pointer (some ⟨g, 0, none⟩), .slice h.A h.l.length h.c, .func (.func 129) #[] #[.pointer (some ⟨W.heap.size, 0, none⟩)]] (W1.setCell ⟨g, 1, none⟩ (.bool lg2)) (Wro W wa.heap.size g T (l ++ (vint h.l.length ++ h.l.flatMap enc)) (lg || (decide (64 < h.l.length) || h.l.any bad)))) := fun lg2 h2 => by
    have hwn := hw1.setLong lg2
    have hfn : Fr T W1 (W1.setCell ⟨g, 1, none⟩ (.bool lg2)) := (Fr.refl T W1).setCell (p := ⟨g, 1, none⟩) (fun _ => hw.tg) _
    have hgn : Grw T T W1 (W1.setCell ⟨g, 1, none⟩ (.bool lg2)) := fun b hb => ⟨.inl hb, hwn.bnd b hb⟩
    have hBn := hB1.trans (hfn.below (fun b hb h => by have := hw.lo b h; omega) hB1.size)
    refine (put_Lv (po := W.heap.size) hh hn hone hM hN hQ (hQ _ _ _ _ hq1 hfn hgn) hwn hBn hl (k1.fr hfn hT1) hT1).mono ?_
    rintro e W9 ⟨rfl, T9, h9, hf9, hg9⟩
    refine ⟨rfl, T9, ?_, (Fr.of_below hb1 T).trans (hfn.trans hf9), (hg9.alloc_left (W0 := W1) hfn.size).alloc_left hb1.size⟩
    rw [← Bool.or_assoc, h2]
    exact h9
  cases hlg : lg with
  | true =>
    have FN := fin true (by rw [hlg]; rfl)
    rw [hlg] at c1
    clear fin hlg
    go_wp2_with fail
    refine FN.out.mono ?_
    rintro e W9 ⟨rfl, h9⟩
    go_wp2_with fail
    go_end0
    exact ⟨rfl, h9⟩
  | false =>
    rw [hlg] at c1
    have FN := fin (decide (64 < (h.l.length : Int))) (by rw [hlg, Bool.false_or]; exact decide_eq_decide.2 (by omega))
    clear fin hlg
    go_wp2_with fail
    refine FN.out.mono ?_
    rintro e W9 ⟨rfl, h9⟩
    go_wp2_with fail
    go_end0
    exact ⟨rfl, h9⟩
set_option maxRecDepth 100000 in
theorem list1_Np {wa : World} {g p po : Nat} {Q : (Nat → Prop) → World → Prop} {enc : List UInt8} {bad : Bool} (x : Np) {N : Nat} (hone : OneW wa g Q 78 #[.agg #[.int .i64 x.power, .int .i64 x.enter, .int .i64 x.wake], .pointer (some ⟨p, 0, none⟩)] N enc bad) {T : Nat → Prop} {W : World} {l : List UInt8} {lg : Bool}
    (hQ : Stq Q) (hq : Q T W) (hw : WrC W wa.heap.size g T l lg) (hB : Below wa.heap.size wa W) (hl : l.length ≤ N) (ho : Blk W po 153 #[.func (.func 78) #[] #[.pointer (some ⟨p, 0, none⟩)]]) :
    Calls Tryz.prog 131 #[.pointer (some ⟨g, 0, none⟩), .agg #[.int .i64 x.power, .int .i64 x.enter, .int .i64 x.wake], .pointer (some ⟨po, 0, none⟩)] W (Wro W wa.heap.size g T (l ++ enc) (lg || bad)) := by
  have hb1 := (Below.refl W.heap.size W).alloc (Nat.le_refl _) (.cells #[.int .i64 x.power, .int .i64 x.enter, .int .i64 x.wake] 89)
  have k1 := Blk.new W 89 #[.int .i64 x.power, .int .i64 x.enter, .int .i64 x.wake]
  have hw1 := hw.keep hb1
  have ho1 := ho.keep hb1
  have hq1 := hQ T T _ _ hq (Fr.of_below hb1 T) (fun b hb => ⟨.inl hb, Nat.lt_of_lt_of_le (hw.bnd b hb) hb1.size⟩)
  have hB1 := hB.trans (hb1.mono hB.size)
  go_enter Tryz.func131, Tryz.ntmps131
  go_upto_region 1 with fail
  generalize W.alloc (.cells #[.int .i64 x.power, .int .i64 x.enter, .int .i64 x.wake] 89) = W1 at hb1 k1 hw1 ho1 hq1 hB1 ⊢
  have c0 : W1.cell? ⟨W.heap.size, 0, none⟩ = some (.int .i64 x.power) := k1.cell 0
  have c1 : W1.cell? ⟨W.heap.size, 1, none⟩ = some (.int .i64 x.enter) := k1.cell 1
  have c2 : W1.cell? ⟨W.heap.size, 2, none⟩ = some (.int .i64 x.wake) := k1.cell 2
  have hl1 := k1.lt
  have hlo := ho1.lt
  have o0 : W1.cell? ⟨po, 0, none⟩ = some (.func (.func 78) #[] #[.pointer (some ⟨p, 0, none⟩)]) := ho1.cell 0
  go_wp2_with fail
  refine (hone T W1 l lg hq1 hw1 hB1 hl).mono ?_
  rintro e W2 ⟨rfl, h2⟩
  go_wp2_with fail
  go_end0
  exact Wro.below ⟨rfl, h2⟩ hb1
theorem any_snocNp {bad : Np → Bool} {l : List Np} {k : Nat} (h : k < l.length) (lg : Bool) : (lg || (l.take k).any bad || bad (atD Np0 l k)) = (lg || (l.take (k + 1)).any bad) := by
  rw [take_snocG Np0 l k h]
  simp [Bool.or_assoc]
set_option maxRecDepth 100000 in
theorem put_Np {wa : World} {g p po : Nat} {Q : (Nat → Prop) → World → Prop} {enc : Np → List UInt8} {bad : Np → Bool} {h : Hd Np} {N M : Nat} (hh : rdNps.ok wa h) (hn : h.l.length ≤ 100) (hone : ∀ x ∈ h.l, OneW wa g Q 78 #[.agg #[.int .i64 x.power, .int .i64 x.enter, .int .i64 x.wake], .pointer (some ⟨p, 0, none⟩)] N (enc x) (bad x))
    (hM : ∀ x ∈ h.l, (enc x).length ≤ M) (hN : N ≤ 60000000) {T : Nat → Prop} {W : World} {l : List UInt8} {lg : Bool}
    (hQ : Stq Q) (hq : Q T W) (hw : WrC W wa.heap.size g T l lg) (hB : Below wa.heap.size wa W) (hl : l.length + 11 + 100 * M ≤ N) (ho : Blk W po 153 #[.func (.func 78) #[] #[.pointer (some ⟨p, 0, none⟩)]]) (hpo : ¬ T po) :
    Calls Tryz.prog 130 #[.pointer (some ⟨g, 0, none⟩), .slice h.A h.l.length h.c, .func (.func 131) #[] #[.pointer (some ⟨po, 0, none⟩)]] W (Wro W wa.heap.size g T (l ++ (vint h.l.length ++ h.l.flatMap enc)) (lg || h.l.any bad)) := by
  have hgl := hw.lt
  have hBs := hB.size
  obtain ⟨A, c, hl0⟩ := h
  simp only at hh hn hone hM ⊢
  have hvl := vint_len (hl0.length : Int)
  go_enter Tryz.func130, Tryz.ntmps130
  go_wp2_with fail
  refine (writeIntC_any hw hBs (by omega) (n := (hl0.length : Int)) (by unfold i64; omega)).mono ?_
  rintro e w2 ⟨rfl, T2, h2, hf2, hg2⟩
  go_wp2_with fail
  go_loopw [16] (fun i wr => ∃ (k : Nat) (T' : Nat → Prop), k ≤ hl0.length ∧ i = .int .i64 (k : Int) ∧ WrC wr wa.heap.size g T' ((l ++ vint hl0.length) ++ (hl0.take k).flatMap enc) (lg || (hl0.take k).any bad) ∧ Fr T W wr ∧ Grw T T' W wr) (fun i _ => hl0.length - (intOf i).toNat)
  case atStart => exact ⟨0, T2, Nat.zero_le _, rfl, by simpa using h2, hf2, hg2⟩
  case round =>
    obtain ⟨k, T', hk, rfl, hwr, hfr, hgr⟩ := hrel
    have hqr := hQ _ _ _ _ hq hfr hgr
    have hBr := hB.trans (hfr.below (fun b hb h => by have := hw.lo b h; omega) hBs)
    have hor := ho.fr hfr hpo
    by_cases hlt : k < hl0.length
    · have hT1 := Lib.hid (any_snocNp (bad := bad) hlt lg)
      have hT2 : Hid ((hl0.take (k + 1)).flatMap enc = (hl0.take k).flatMap enc ++ enc (atD Np0 hl0 k)) := by
        unfold Hid
        rw [take_snocG Np0 hl0 k hlt, List.flatMap_append]
        simp
      have hfl : ((hl0.take k).flatMap enc).length ≤ k * M := flat_le enc _ (fun x hx => hM x (List.mem_of_mem_take hx)) k (by rw [List.length_take]; omega)
      have hkM : k * M ≤ 100 * M := Nat.mul_le_mul_right M (by omega)
      have honek := hone _ (atD_mem (d := Np0) hlt)
      obtain ⟨eb, eo, rfl, heb, hec⟩ := (rdNps.keep hh hBr).1.at_ Np0 hlt
      have x0 : wr.cell? ⟨eb, eo + k * 3, none⟩ = some (.int .i64 (atD Np0 hl0 k).power) := hec 0 _ rfl
      have x1 : wr.cell? ⟨eb, eo + k * 3 + 1, none⟩ = some (.int .i64 (atD Np0 hl0 k).enter) := hec 1 _ rfl
      have x2 : wr.cell? ⟨eb, eo + k * 3 + 2, none⟩ = some (.int .i64 (atD Np0 hl0 k).wake) := hec 2 _ rfl
      clear hec
      generalize atD Np0 hl0 k = x at x0 x1 x2 hT1 hT2 honek
      have hb3 := (Below.refl wr.heap.size wr).alloc (Nat.le_refl _) (.cells #[.int .i64 x.power, .int .i64 x.enter, .int .i64 x.wake] 89)
      have k3 := Blk.new wr 89 #[.int .i64 x.power, .int .i64 x.enter, .int .i64 x.wake]
      go_upto_region 5 with fail
      generalize wr.alloc (.cells #[.int .i64 x.power, .int .i64 x.enter, .int .i64 x.wake] 89) = w3 at hb3 k3 ⊢
      have hw3 := hwr.keep hb3
      have ho3 := hor.keep hb3
      have hq3 := hQ T' T' _ _ hqr (Fr.of_below hb3 T') (fun b hb => ⟨.inl hb, Nat.lt_of_lt_of_le (hwr.bnd b hb) hb3.size⟩)
      have hB3 := hBr.trans (hb3.mono hBr.size)
      have y0 : w3.cell? ⟨wr.heap.size, 0, none⟩ = some (.int .i64 x.power) := k3.cell 0
      have y1 : w3.cell? ⟨wr.heap.size, 1, none⟩ = some (.int .i64 x.enter) := k3.cell 1
      have y2 : w3.cell? ⟨wr.heap.size, 2, none⟩ = some (.int .i64 x.wake) := k3.cell 2
      have hl3 := k3.lt
      clear x0 x1 x2
      go_wp2_with fail
      refine (list1_Np (po := po) x honek hQ hq3 hw3 hB3 (by simp only [List.length_append]; omega) ho3).mono ?_
      rintro e w4 ⟨rfl, T4, h4, hf4, hg4⟩
      go_wp2_with fail
      refine ⟨⟨k + 1, T4, by omega, by go_num, ?_, hfr.grw hgr ((Fr.of_below hb3 T').trans hf4), hgr.trans hfr.size (hg4.alloc_left hb3.size)⟩, by simp [intOf]; omega⟩
      rw [hT2.out, ← hT1.out, ← List.append_assoc]
      exact h4
    · obtain rfl : k = hl0.length := by omega
      have HT : Hid (hl0.take hl0.length = hl0) := List.take_length
      rw [HT.out, List.append_assoc] at hwr
      go_wp2_with fail
      go_end0
      exact ⟨rfl, T', hwr, hfr, hgr⟩
set_option maxRecDepth 100000 in
theorem list_Np {wa : World} {g p : Nat} {Q : (Nat → Prop) → World → Prop} {enc : Np → List UInt8} {bad : Np → Bool} {h : Hd Np} {N M : Nat} (hh : rdNps.ok wa h) (hn : h.l.length ≤ 100) (hone : ∀ x ∈ h.l, OneW wa g Q 78 #[.agg #[.int .i64 x.power, .int .i64 x.enter, .int .i64 x.wake], .pointer (some ⟨p, 0, none⟩)] N (enc x) (bad x))
    (hM : ∀ x ∈ h.l, (enc x).length ≤ M) (hN : N ≤ 60000000) {T : Nat → Prop} {W : World} {l : List UInt8} {lg : Bool}
    (hQ : Stq Q) (hq : Q T W) (hw : WrC W wa.heap.size g T l lg) (hB : Below wa.heap.size wa W) (hl : l.length + 11 + 100 * M ≤ N) :
    Calls Tryz.prog 77 #[.pointer (some ⟨g, 0, none⟩), .slice h.A h.l.length h.c, .func (.func 78) #[] #[.pointer (some ⟨p, 0, none⟩)]] W (Wro W wa.heap.size g T (l ++ (vint h.l.length ++ h.l.flatMap enc)) (lg || (decide (64 < h.l.length) || h.l.any bad))) := by
  have hb1 := (Below.refl W.heap.size W).alloc (Nat.le_refl _) (.cells #[.func (.func 78) #[] #[.pointer (some ⟨p, 0, none⟩)]] 153)
  have k1 := Blk.new W 153 #[.func (.func 78) #[] #[.pointer (some ⟨p, 0, none⟩)]]
  have hw1 := hw.keep hb1
  have hT1 : ¬ T W.heap.size := fun h => by have := hw.bnd _ h; omega
  have hq1 := hQ T T _ _ hq (Fr.of_below hb1 T) (fun b hb => ⟨.inl hb, Nat.lt_of_lt_of_le (hw.bnd b hb) hb1.size⟩)
  have hgl := hw1.lt
  go_enter Tryz.func77, Tryz.ntmps77
  go_upto_region 1 with fail
  generalize W.alloc (.cells #[.func (.func 78) #[] #[.pointer (some ⟨p, 0, none⟩)]] 153) = W1 at hb1 k1 hw1 hq1 hgl ⊢
  have hB1 := hB.trans (hb1.mono hB.size)
  have hwg := hw1
  obtain ⟨⟨v, kb, hrow, hv⟩, h6, h7, h8⟩ := hwg
  have c1 : W1.cell? ⟨g, 1, none⟩ = some (.bool lg) := kb.cell 1
  have f1 : W1.frozen? ⟨g, 1, none⟩ = false := kb.frozen 1
  have hpg : W.heap.size ≠ g := fun h => by rw [h] at hT1; exact hT1 hw.tg
  have fin : ∀ lg2 : Bool, (lg || decide (64 < h.l.length)) = lg2 → Hid (Calls Tryz.prog 130 #[.pointer (some ⟨g, 0, none⟩), .slice h.A h.l.length h.c, .func (.func 131) #[] #[.pointer (some ⟨W.heap.size, 0, none⟩)]] (W1.setCell ⟨g, 1, none⟩ (.bool lg2)) (Wro W wa.heap.size g T (l ++ (vint h.l.length ++ h.l.flatMap enc)) (lg || (decide (64 < h.l.length) || h.l.any bad)))) := fun lg2 h2 => by
    have hwn := hw1.setLong lg2
    have hfn : Fr T W1 (W1.setCell ⟨g, 1, none⟩ (.bool lg2)) := (Fr.refl T W1).setCell (p := ⟨g, 1, none⟩) (fun _ => hw.tg) _
    have hgn : Grw T T W1 (W1.setCell ⟨g, 1, none⟩ (.bool lg2)) := fun b hb => ⟨.inl hb, hwn.bnd b hb⟩
    have hBn := hB1.trans (hfn.below (fun b hb h => by have := hw.lo b h; omega) hB1.size)
    refine (put_Np (po := W.heap.size) hh hn hone hM hN hQ (hQ _ _ _ _ hq1 hfn hgn) hwn hBn hl (k1.fr hfn hT1) hT1).mono ?_
    rintro e W9 ⟨rfl, T9, h9, hf9, hg9⟩
    refine ⟨rfl, T9, ?_, (Fr.of_below hb1 T).trans (hfn.trans hf9), (hg9.alloc_left (W0 := W1) hfn.size).alloc_left hb1.size⟩
    rw [← Bool.or_assoc, h2]
    exact h9
  cases hlg : lg with
  | true =>
    have FN := fin true (by rw [hlg]; rfl)
    rw [hlg] at c1
    clear fin hlg
    go_wp2_with fail
    refine FN.out.mono ?_
    rintro e W9 ⟨rfl, h9⟩
    go_wp2_with fail
    go_end0
    exact ⟨rfl, h9⟩
  | false =>
    rw [hlg] at c1
    have FN := fin (decide (64 < (h.l.length : Int))) (by rw [hlg, Bool.false_or]; exact decide_eq_decide.2 (by omega))
    clear fin hlg
    go_wp2_with fail
    refine FN.out.mono ?_
    rintro e W9 ⟨rfl, h9⟩
    go_wp2_with fail
    go_end0
    exact ⟨rfl, h9⟩
end Go.Proofs.YtahjnonkhbpnpaaGreat
/- conf's lists, written: ChanConf, PartConf, Mode, int. Printed by wip/gen_cwlist.py. -/
namespace Go.Proofs.YtahjnonkhbpnpaaGreat
open Go.RowKit
set_option maxRecDepth 100000 in
theorem list1_Ch {wa : World} {g p po : Nat} {Q : (Nat → Prop) → World → Prop} {enc : List UInt8} {bad : Bool} (x : Ch) {N : Nat} (hone : OneW wa g Q 18 #[.agg #[.int .i64 x.fr.part, .int .i64 x.fr.port, .int .i64 x.to.part, .int .i64 x.to.port], .pointer (some ⟨p, 0, none⟩)] N enc bad) {T : Nat → Prop} {W : World} {l : List UInt8} {lg : Bool}
    (hQ : Stq Q) (hq : Q T W) (hw : WrC W wa.heap.size g T l lg) (hB : Below wa.heap.size wa W) (hl : l.length ≤ N) (ho : Blk W po 74 #[.func (.func 18) #[] #[.pointer (some ⟨p, 0, none⟩)]]) :
    Calls Tryz.prog 70 #[.pointer (some ⟨g, 0, none⟩), .agg #[.int .i64 x.fr.part, .int .i64 x.fr.port, .int .i64 x.to.part, .int .i64 x.to.port], .pointer (some ⟨po, 0, none⟩)] W (Wro W wa.heap.size g T (l ++ enc) (lg || bad)) := by
  have hb1 := (Below.refl W.heap.size W).alloc (Nat.le_refl _) (.cells #[.int .i64 x.fr.part, .int .i64 x.fr.port, .int .i64 x.to.part, .int .i64 x.to.port] 72)
  have k1 := Blk.new W 72 #[.int .i64 x.fr.part, .int .i64 x.fr.port, .int .i64 x.to.part, .int .i64 x.to.port]
  have hw1 := hw.keep hb1
  have ho1 := ho.keep hb1
  have hq1 := hQ T T _ _ hq (Fr.of_below hb1 T) (fun b hb => ⟨.inl hb, Nat.lt_of_lt_of_le (hw.bnd b hb) hb1.size⟩)
  have hB1 := hB.trans (hb1.mono hB.size)
  go_enter Tryz.func70, Tryz.ntmps70
  go_upto_region 1 with fail
  generalize W.alloc (.cells #[.int .i64 x.fr.part, .int .i64 x.fr.port, .int .i64 x.to.part, .int .i64 x.to.port] 72) = W1 at hb1 k1 hw1 ho1 hq1 hB1 ⊢
  have c0 : W1.cell? ⟨W.heap.size, 0, none⟩ = some (.int .i64 x.fr.part) := k1.cell 0
  have c1 : W1.cell? ⟨W.heap.size, 1, none⟩ = some (.int .i64 x.fr.port) := k1.cell 1
  have c2 : W1.cell? ⟨W.heap.size, 2, none⟩ = some (.int .i64 x.to.part) := k1.cell 2
  have c3 : W1.cell? ⟨W.heap.size, 3, none⟩ = some (.int .i64 x.to.port) := k1.cell 3
  have hl1 := k1.lt
  have hlo := ho1.lt
  have o0 : W1.cell? ⟨po, 0, none⟩ = some (.func (.func 18) #[] #[.pointer (some ⟨p, 0, none⟩)]) := ho1.cell 0
  go_wp2_with fail
  refine (hone T W1 l lg hq1 hw1 hB1 hl).mono ?_
  rintro e W2 ⟨rfl, h2⟩
  go_wp2_with fail
  go_end0
  exact Wro.below ⟨rfl, h2⟩ hb1
theorem any_snocCh {bad : Ch → Bool} {l : List Ch} {k : Nat} (h : k < l.length) (lg : Bool) : (lg || (l.take k).any bad || bad (atD Ch0 l k)) = (lg || (l.take (k + 1)).any bad) := by
  rw [take_snocG Ch0 l k h]
  simp [Bool.or_assoc]
set_option maxRecDepth 100000 in
theorem put_Ch {wa : World} {g p po : Nat} {Q : (Nat → Prop) → World → Prop} {enc : Ch → List UInt8} {bad : Ch → Bool} {h : Hd Ch} {N M : Nat} (hh : rdChs.ok wa h) (hn : h.l.length ≤ 100) (hone : ∀ x ∈ h.l, OneW wa g Q 18 #[.agg #[.int .i64 x.fr.part, .int .i64 x.fr.port, .int .i64 x.to.part, .int .i64 x.to.port], .pointer (some ⟨p, 0, none⟩)] N (enc x) (bad x))
    (hM : ∀ x ∈ h.l, (enc x).length ≤ M) (hN : N ≤ 60000000) {T : Nat → Prop} {W : World} {l : List UInt8} {lg : Bool}
    (hQ : Stq Q) (hq : Q T W) (hw : WrC W wa.heap.size g T l lg) (hB : Below wa.heap.size wa W) (hl : l.length + 11 + 100 * M ≤ N) (ho : Blk W po 74 #[.func (.func 18) #[] #[.pointer (some ⟨p, 0, none⟩)]]) (hpo : ¬ T po) :
    Calls Tryz.prog 69 #[.pointer (some ⟨g, 0, none⟩), .slice h.A h.l.length h.c, .func (.func 70) #[] #[.pointer (some ⟨po, 0, none⟩)]] W (Wro W wa.heap.size g T (l ++ (vint h.l.length ++ h.l.flatMap enc)) (lg || h.l.any bad)) := by
  have hgl := hw.lt
  have hBs := hB.size
  obtain ⟨A, c, hl0⟩ := h
  simp only at hh hn hone hM ⊢
  have hvl := vint_len (hl0.length : Int)
  go_enter Tryz.func69, Tryz.ntmps69
  go_wp2_with fail
  refine (writeIntC_any hw hBs (by omega) (n := (hl0.length : Int)) (by unfold i64; omega)).mono ?_
  rintro e w2 ⟨rfl, T2, h2, hf2, hg2⟩
  go_wp2_with fail
  go_loopw [16] (fun i wr => ∃ (k : Nat) (T' : Nat → Prop), k ≤ hl0.length ∧ i = .int .i64 (k : Int) ∧ WrC wr wa.heap.size g T' ((l ++ vint hl0.length) ++ (hl0.take k).flatMap enc) (lg || (hl0.take k).any bad) ∧ Fr T W wr ∧ Grw T T' W wr) (fun i _ => hl0.length - (intOf i).toNat)
  case atStart => exact ⟨0, T2, Nat.zero_le _, rfl, by simpa using h2, hf2, hg2⟩
  case round =>
    obtain ⟨k, T', hk, rfl, hwr, hfr, hgr⟩ := hrel
    have hqr := hQ _ _ _ _ hq hfr hgr
    have hBr := hB.trans (hfr.below (fun b hb h => by have := hw.lo b h; omega) hBs)
    have hor := ho.fr hfr hpo
    by_cases hlt : k < hl0.length
    · have hT1 := Lib.hid (any_snocCh (bad := bad) hlt lg)
      have hT2 : Hid ((hl0.take (k + 1)).flatMap enc = (hl0.take k).flatMap enc ++ enc (atD Ch0 hl0 k)) := by
        unfold Hid
        rw [take_snocG Ch0 hl0 k hlt, List.flatMap_append]
        simp
      have hfl : ((hl0.take k).flatMap enc).length ≤ k * M := flat_le enc _ (fun x hx => hM x (List.mem_of_mem_take hx)) k (by rw [List.length_take]; omega)
      have hkM : k * M ≤ 100 * M := Nat.mul_le_mul_right M (by omega)
      have honek := hone _ (atD_mem (d := Ch0) hlt)
      obtain ⟨eb, eo, rfl, heb, hec⟩ := (rdChs.keep hh hBr).1.at_ Ch0 hlt
      have x0 : wr.cell? ⟨eb, eo + k * 4, none⟩ = some (.int .i64 (atD Ch0 hl0 k).fr.part) := hec 0 _ rfl
      have x1 : wr.cell? ⟨eb, eo + k * 4 + 1, none⟩ = some (.int .i64 (atD Ch0 hl0 k).fr.port) := hec 1 _ rfl
      have x2 : wr.cell? ⟨eb, eo + k * 4 + 2, none⟩ = some (.int .i64 (atD Ch0 hl0 k).to.part) := hec 2 _ rfl
      have x3 : wr.cell? ⟨eb, eo + k * 4 + 3, none⟩ = some (.int .i64 (atD Ch0 hl0 k).to.port) := hec 3 _ rfl
      clear hec
      generalize atD Ch0 hl0 k = x at x0 x1 x2 x3 hT1 hT2 honek
      have hb3 := (Below.refl wr.heap.size wr).alloc (Nat.le_refl _) (.cells #[.int .i64 x.fr.part, .int .i64 x.fr.port, .int .i64 x.to.part, .int .i64 x.to.port] 72)
      have k3 := Blk.new wr 72 #[.int .i64 x.fr.part, .int .i64 x.fr.port, .int .i64 x.to.part, .int .i64 x.to.port]
      go_upto_region 5 with fail
      generalize wr.alloc (.cells #[.int .i64 x.fr.part, .int .i64 x.fr.port, .int .i64 x.to.part, .int .i64 x.to.port] 72) = w3 at hb3 k3 ⊢
      have hw3 := hwr.keep hb3
      have ho3 := hor.keep hb3
      have hq3 := hQ T' T' _ _ hqr (Fr.of_below hb3 T') (fun b hb => ⟨.inl hb, Nat.lt_of_lt_of_le (hwr.bnd b hb) hb3.size⟩)
      have hB3 := hBr.trans (hb3.mono hBr.size)
      have y0 : w3.cell? ⟨wr.heap.size, 0, none⟩ = some (.int .i64 x.fr.part) := k3.cell 0
      have y1 : w3.cell? ⟨wr.heap.size, 1, none⟩ = some (.int .i64 x.fr.port) := k3.cell 1
      have y2 : w3.cell? ⟨wr.heap.size, 2, none⟩ = some (.int .i64 x.to.part) := k3.cell 2
      have y3 : w3.cell? ⟨wr.heap.size, 3, none⟩ = some (.int .i64 x.to.port) := k3.cell 3
      have hl3 := k3.lt
      clear x0 x1 x2 x3
      go_wp2_with fail
      refine (list1_Ch (po := po) x honek hQ hq3 hw3 hB3 (by simp only [List.length_append]; omega) ho3).mono ?_
      rintro e w4 ⟨rfl, T4, h4, hf4, hg4⟩
      go_wp2_with fail
      refine ⟨⟨k + 1, T4, by omega, by go_num, ?_, hfr.grw hgr ((Fr.of_below hb3 T').trans hf4), hgr.trans hfr.size (hg4.alloc_left hb3.size)⟩, by simp [intOf]; omega⟩
      rw [hT2.out, ← hT1.out, ← List.append_assoc]
      exact h4
    · obtain rfl : k = hl0.length := by omega
      have HT : Hid (hl0.take hl0.length = hl0) := List.take_length
      rw [HT.out, List.append_assoc] at hwr
      go_wp2_with fail
      go_end0
      exact ⟨rfl, T', hwr, hfr, hgr⟩
set_option maxRecDepth 100000 in
theorem list_Ch {wa : World} {g p : Nat} {Q : (Nat → Prop) → World → Prop} {enc : Ch → List UInt8} {bad : Ch → Bool} {h : Hd Ch} {N M : Nat} (hh : rdChs.ok wa h) (hn : h.l.length ≤ 100) (hone : ∀ x ∈ h.l, OneW wa g Q 18 #[.agg #[.int .i64 x.fr.part, .int .i64 x.fr.port, .int .i64 x.to.part, .int .i64 x.to.port], .pointer (some ⟨p, 0, none⟩)] N (enc x) (bad x))
    (hM : ∀ x ∈ h.l, (enc x).length ≤ M) (hN : N ≤ 60000000) {T : Nat → Prop} {W : World} {l : List UInt8} {lg : Bool}
    (hQ : Stq Q) (hq : Q T W) (hw : WrC W wa.heap.size g T l lg) (hB : Below wa.heap.size wa W) (hl : l.length + 11 + 100 * M ≤ N) :
    Calls Tryz.prog 17 #[.pointer (some ⟨g, 0, none⟩), .slice h.A h.l.length h.c, .func (.func 18) #[] #[.pointer (some ⟨p, 0, none⟩)]] W (Wro W wa.heap.size g T (l ++ (vint h.l.length ++ h.l.flatMap enc)) (lg || (decide (64 < h.l.length) || h.l.any bad))) := by
  have hb1 := (Below.refl W.heap.size W).alloc (Nat.le_refl _) (.cells #[.func (.func 18) #[] #[.pointer (some ⟨p, 0, none⟩)]] 74)
  have k1 := Blk.new W 74 #[.func (.func 18) #[] #[.pointer (some ⟨p, 0, none⟩)]]
  have hw1 := hw.keep hb1
  have hT1 : ¬ T W.heap.size := fun h => by have := hw.bnd _ h; omega
  have hq1 := hQ T T _ _ hq (Fr.of_below hb1 T) (fun b hb => ⟨.inl hb, Nat.lt_of_lt_of_le (hw.bnd b hb) hb1.size⟩)
  have hgl := hw1.lt
  go_enter Tryz.func17, Tryz.ntmps17
  go_upto_region 1 with fail
  generalize W.alloc (.cells #[.func (.func 18) #[] #[.pointer (some ⟨p, 0, none⟩)]] 74) = W1 at hb1 k1 hw1 hq1 hgl ⊢
  have hB1 := hB.trans (hb1.mono hB.size)
  have hwg := hw1
  obtain ⟨⟨v, kb, hrow, hv⟩, h6, h7, h8⟩ := hwg
  have c1 : W1.cell? ⟨g, 1, none⟩ = some (.bool lg) := kb.cell 1
  have f1 : W1.frozen? ⟨g, 1, none⟩ = false := kb.frozen 1
  have hpg : W.heap.size ≠ g := fun h => by rw [h] at hT1; exact hT1 hw.tg
  have fin : ∀ lg2 : Bool, (lg || decide (64 < h.l.length)) = lg2 → Hid (Calls Tryz.prog 69 #[.pointer (some ⟨g, 0, none⟩), .slice h.A h.l.length h.c, .func (.func 70) #[] #[.pointer (some ⟨W.heap.size, 0, none⟩)]] (W1.setCell ⟨g, 1, none⟩ (.bool lg2)) (Wro W wa.heap.size g T (l ++ (vint h.l.length ++ h.l.flatMap enc)) (lg || (decide (64 < h.l.length) || h.l.any bad)))) := fun lg2 h2 => by
    have hwn := hw1.setLong lg2
    have hfn : Fr T W1 (W1.setCell ⟨g, 1, none⟩ (.bool lg2)) := (Fr.refl T W1).setCell (p := ⟨g, 1, none⟩) (fun _ => hw.tg) _
    have hgn : Grw T T W1 (W1.setCell ⟨g, 1, none⟩ (.bool lg2)) := fun b hb => ⟨.inl hb, hwn.bnd b hb⟩
    have hBn := hB1.trans (hfn.below (fun b hb h => by have := hw.lo b h; omega) hB1.size)
    refine (put_Ch (po := W.heap.size) hh hn hone hM hN hQ (hQ _ _ _ _ hq1 hfn hgn) hwn hBn hl (k1.fr hfn hT1) hT1).mono ?_
    rintro e W9 ⟨rfl, T9, h9, hf9, hg9⟩
    refine ⟨rfl, T9, ?_, (Fr.of_below hb1 T).trans (hfn.trans hf9), (hg9.alloc_left (W0 := W1) hfn.size).alloc_left hb1.size⟩
    rw [← Bool.or_assoc, h2]
    exact h9
  cases hlg : lg with
  | true =>
    have FN := fin true (by rw [hlg]; rfl)
    rw [hlg] at c1
    clear fin hlg
    go_wp2_with fail
    refine FN.out.mono ?_
    rintro e W9 ⟨rfl, h9⟩
    go_wp2_with fail
    go_end0
    exact ⟨rfl, h9⟩
  | false =>
    rw [hlg] at c1
    have FN := fin (decide (64 < (h.l.length : Int))) (by rw [hlg, Bool.false_or]; exact decide_eq_decide.2 (by omega))
    clear fin hlg
    go_wp2_with fail
    refine FN.out.mono ?_
    rintro e W9 ⟨rfl, h9⟩
    go_wp2_with fail
    go_end0
    exact ⟨rfl, h9⟩
set_option maxRecDepth 100000 in
theorem list1_Pt {wa : World} {g po : Nat} {Q : (Nat → Prop) → World → Prop} {enc : List UInt8} {bad : Bool} (x : Pt) {N : Nat} (hone : OneW wa g Q 16 #[.pointer (some ⟨g, 0, none⟩), .agg #[.slice x.regs.A x.regs.l.length x.regs.c, .slice x.procs.A x.procs.l.length x.procs.c, .slice x.ports.A x.ports.l.length x.ports.c, .slice x.sems.A x.sems.l.length x.sems.c, .int .i64 x.flags, .slice x.pools.A x.pools.l.length x.pools.c, .slice x.slates.A x.slates.l.length x.slates.c, .int .i64 x.cap, .int .i64 x.bud, .int .i64 x.lad, .slice x.acts.A x.acts.l.length x.acts.c]] N enc bad) {T : Nat → Prop} {W : World} {l : List UInt8} {lg : Bool}
    (hQ : Stq Q) (hq : Q T W) (hw : WrC W wa.heap.size g T l lg) (hB : Below wa.heap.size wa W) (hl : l.length ≤ N) (ho : Blk W po 67 #[.func (.func 16) #[.pointer (some ⟨g, 0, none⟩)] #[]]) :
    Calls Tryz.prog 56 #[.pointer (some ⟨g, 0, none⟩), .agg #[.slice x.regs.A x.regs.l.length x.regs.c, .slice x.procs.A x.procs.l.length x.procs.c, .slice x.ports.A x.ports.l.length x.ports.c, .slice x.sems.A x.sems.l.length x.sems.c, .int .i64 x.flags, .slice x.pools.A x.pools.l.length x.pools.c, .slice x.slates.A x.slates.l.length x.slates.c, .int .i64 x.cap, .int .i64 x.bud, .int .i64 x.lad, .slice x.acts.A x.acts.l.length x.acts.c], .pointer (some ⟨po, 0, none⟩)] W (Wro W wa.heap.size g T (l ++ enc) (lg || bad)) := by
  have hb1 := (Below.refl W.heap.size W).alloc (Nat.le_refl _) (.cells #[.slice x.regs.A x.regs.l.length x.regs.c, .slice x.procs.A x.procs.l.length x.procs.c, .slice x.ports.A x.ports.l.length x.ports.c, .slice x.sems.A x.sems.l.length x.sems.c, .int .i64 x.flags, .slice x.pools.A x.pools.l.length x.pools.c, .slice x.slates.A x.slates.l.length x.slates.c, .int .i64 x.cap, .int .i64 x.bud, .int .i64 x.lad, .slice x.acts.A x.acts.l.length x.acts.c] 55)
  have k1 := Blk.new W 55 #[.slice x.regs.A x.regs.l.length x.regs.c, .slice x.procs.A x.procs.l.length x.procs.c, .slice x.ports.A x.ports.l.length x.ports.c, .slice x.sems.A x.sems.l.length x.sems.c, .int .i64 x.flags, .slice x.pools.A x.pools.l.length x.pools.c, .slice x.slates.A x.slates.l.length x.slates.c, .int .i64 x.cap, .int .i64 x.bud, .int .i64 x.lad, .slice x.acts.A x.acts.l.length x.acts.c]
  have hw1 := hw.keep hb1
  have ho1 := ho.keep hb1
  have hq1 := hQ T T _ _ hq (Fr.of_below hb1 T) (fun b hb => ⟨.inl hb, Nat.lt_of_lt_of_le (hw.bnd b hb) hb1.size⟩)
  have hB1 := hB.trans (hb1.mono hB.size)
  go_enter Tryz.func56, Tryz.ntmps56
  go_upto_region 1 with fail
  generalize W.alloc (.cells #[.slice x.regs.A x.regs.l.length x.regs.c, .slice x.procs.A x.procs.l.length x.procs.c, .slice x.ports.A x.ports.l.length x.ports.c, .slice x.sems.A x.sems.l.length x.sems.c, .int .i64 x.flags, .slice x.pools.A x.pools.l.length x.pools.c, .slice x.slates.A x.slates.l.length x.slates.c, .int .i64 x.cap, .int .i64 x.bud, .int .i64 x.lad, .slice x.acts.A x.acts.l.length x.acts.c] 55) = W1 at hb1 k1 hw1 ho1 hq1 hB1 ⊢
  have c0 : W1.cell? ⟨W.heap.size, 0, none⟩ = some (.slice x.regs.A x.regs.l.length x.regs.c) := k1.cell 0
  have c1 : W1.cell? ⟨W.heap.size, 1, none⟩ = some (.slice x.procs.A x.procs.l.length x.procs.c) := k1.cell 1
  have c2 : W1.cell? ⟨W.heap.size, 2, none⟩ = some (.slice x.ports.A x.ports.l.length x.ports.c) := k1.cell 2
  have c3 : W1.cell? ⟨W.heap.size, 3, none⟩ = some (.slice x.sems.A x.sems.l.length x.sems.c) := k1.cell 3
  have c4 : W1.cell? ⟨W.heap.size, 4, none⟩ = some (.int .i64 x.flags) := k1.cell 4
  have c5 : W1.cell? ⟨W.heap.size, 5, none⟩ = some (.slice x.pools.A x.pools.l.length x.pools.c) := k1.cell 5
  have c6 : W1.cell? ⟨W.heap.size, 6, none⟩ = some (.slice x.slates.A x.slates.l.length x.slates.c) := k1.cell 6
  have c7 : W1.cell? ⟨W.heap.size, 7, none⟩ = some (.int .i64 x.cap) := k1.cell 7
  have c8 : W1.cell? ⟨W.heap.size, 8, none⟩ = some (.int .i64 x.bud) := k1.cell 8
  have c9 : W1.cell? ⟨W.heap.size, 9, none⟩ = some (.int .i64 x.lad) := k1.cell 9
  have c10 : W1.cell? ⟨W.heap.size, 10, none⟩ = some (.slice x.acts.A x.acts.l.length x.acts.c) := k1.cell 10
  have hl1 := k1.lt
  have hlo := ho1.lt
  have o0 : W1.cell? ⟨po, 0, none⟩ = some (.func (.func 16) #[.pointer (some ⟨g, 0, none⟩)] #[]) := ho1.cell 0
  go_wp2_with fail
  refine (hone T W1 l lg hq1 hw1 hB1 hl).mono ?_
  rintro e W2 ⟨rfl, h2⟩
  go_wp2_with fail
  go_end0
  exact Wro.below ⟨rfl, h2⟩ hb1
theorem any_snocPt {bad : Pt → Bool} {l : List Pt} {k : Nat} (h : k < l.length) (lg : Bool) : (lg || (l.take k).any bad || bad (atD Pt0 l k)) = (lg || (l.take (k + 1)).any bad) := by
  rw [take_snocG Pt0 l k h]
  simp [Bool.or_assoc]
set_option maxRecDepth 100000 in
theorem put_Pt {wa : World} {g po : Nat} {Q : (Nat → Prop) → World → Prop} {enc : Pt → List UInt8} {bad : Pt → Bool} {h : Hd Pt} {N M : Nat} (hh : rdPts.ok wa h) (hn : h.l.length ≤ 100) (hone : ∀ x ∈ h.l, OneW wa g Q 16 #[.pointer (some ⟨g, 0, none⟩), .agg #[.slice x.regs.A x.regs.l.length x.regs.c, .slice x.procs.A x.procs.l.length x.procs.c, .slice x.ports.A x.ports.l.length x.ports.c, .slice x.sems.A x.sems.l.length x.sems.c, .int .i64 x.flags, .slice x.pools.A x.pools.l.length x.pools.c, .slice x.slates.A x.slates.l.length x.slates.c, .int .i64 x.cap, .int .i64 x.bud, .int .i64 x.lad, .slice x.acts.A x.acts.l.length x.acts.c]] N (enc x) (bad x))
    (hM : ∀ x ∈ h.l, (enc x).length ≤ M) (hN : N ≤ 60000000) {T : Nat → Prop} {W : World} {l : List UInt8} {lg : Bool}
    (hQ : Stq Q) (hq : Q T W) (hw : WrC W wa.heap.size g T l lg) (hB : Below wa.heap.size wa W) (hl : l.length + 11 + 100 * M ≤ N) (ho : Blk W po 67 #[.func (.func 16) #[.pointer (some ⟨g, 0, none⟩)] #[]]) (hpo : ¬ T po) :
    Calls Tryz.prog 55 #[.pointer (some ⟨g, 0, none⟩), .slice h.A h.l.length h.c, .func (.func 56) #[] #[.pointer (some ⟨po, 0, none⟩)]] W (Wro W wa.heap.size g T (l ++ (vint h.l.length ++ h.l.flatMap enc)) (lg || h.l.any bad)) := by
  have hgl := hw.lt
  have hBs := hB.size
  obtain ⟨A, c, hl0⟩ := h
  simp only at hh hn hone hM ⊢
  have hvl := vint_len (hl0.length : Int)
  go_enter Tryz.func55, Tryz.ntmps55
  go_wp2_with fail
  refine (writeIntC_any hw hBs (by omega) (n := (hl0.length : Int)) (by unfold i64; omega)).mono ?_
  rintro e w2 ⟨rfl, T2, h2, hf2, hg2⟩
  go_wp2_with fail
  go_loopw [16] (fun i wr => ∃ (k : Nat) (T' : Nat → Prop), k ≤ hl0.length ∧ i = .int .i64 (k : Int) ∧ WrC wr wa.heap.size g T' ((l ++ vint hl0.length) ++ (hl0.take k).flatMap enc) (lg || (hl0.take k).any bad) ∧ Fr T W wr ∧ Grw T T' W wr) (fun i _ => hl0.length - (intOf i).toNat)
  case atStart => exact ⟨0, T2, Nat.zero_le _, rfl, by simpa using h2, hf2, hg2⟩
  case round =>
    obtain ⟨k, T', hk, rfl, hwr, hfr, hgr⟩ := hrel
    have hqr := hQ _ _ _ _ hq hfr hgr
    have hBr := hB.trans (hfr.below (fun b hb h => by have := hw.lo b h; omega) hBs)
    have hor := ho.fr hfr hpo
    by_cases hlt : k < hl0.length
    · have hT1 := Lib.hid (any_snocPt (bad := bad) hlt lg)
      have hT2 : Hid ((hl0.take (k + 1)).flatMap enc = (hl0.take k).flatMap enc ++ enc (atD Pt0 hl0 k)) := by
        unfold Hid
        rw [take_snocG Pt0 hl0 k hlt, List.flatMap_append]
        simp
      have hfl : ((hl0.take k).flatMap enc).length ≤ k * M := flat_le enc _ (fun x hx => hM x (List.mem_of_mem_take hx)) k (by rw [List.length_take]; omega)
      have hkM : k * M ≤ 100 * M := Nat.mul_le_mul_right M (by omega)
      have honek := hone _ (atD_mem (d := Pt0) hlt)
      obtain ⟨eb, eo, rfl, heb, hec⟩ := (rdPts.keep hh hBr).1.at_ Pt0 hlt
      have x0 : wr.cell? ⟨eb, eo + k * 11, none⟩ = some (.slice (atD Pt0 hl0 k).regs.A (atD Pt0 hl0 k).regs.l.length (atD Pt0 hl0 k).regs.c) := hec 0 _ rfl
      have x1 : wr.cell? ⟨eb, eo + k * 11 + 1, none⟩ = some (.slice (atD Pt0 hl0 k).procs.A (atD Pt0 hl0 k).procs.l.length (atD Pt0 hl0 k).procs.c) := hec 1 _ rfl
      have x2 : wr.cell? ⟨eb, eo + k * 11 + 2, none⟩ = some (.slice (atD Pt0 hl0 k).ports.A (atD Pt0 hl0 k).ports.l.length (atD Pt0 hl0 k).ports.c) := hec 2 _ rfl
      have x3 : wr.cell? ⟨eb, eo + k * 11 + 3, none⟩ = some (.slice (atD Pt0 hl0 k).sems.A (atD Pt0 hl0 k).sems.l.length (atD Pt0 hl0 k).sems.c) := hec 3 _ rfl
      have x4 : wr.cell? ⟨eb, eo + k * 11 + 4, none⟩ = some (.int .i64 (atD Pt0 hl0 k).flags) := hec 4 _ rfl
      have x5 : wr.cell? ⟨eb, eo + k * 11 + 5, none⟩ = some (.slice (atD Pt0 hl0 k).pools.A (atD Pt0 hl0 k).pools.l.length (atD Pt0 hl0 k).pools.c) := hec 5 _ rfl
      have x6 : wr.cell? ⟨eb, eo + k * 11 + 6, none⟩ = some (.slice (atD Pt0 hl0 k).slates.A (atD Pt0 hl0 k).slates.l.length (atD Pt0 hl0 k).slates.c) := hec 6 _ rfl
      have x7 : wr.cell? ⟨eb, eo + k * 11 + 7, none⟩ = some (.int .i64 (atD Pt0 hl0 k).cap) := hec 7 _ rfl
      have x8 : wr.cell? ⟨eb, eo + k * 11 + 8, none⟩ = some (.int .i64 (atD Pt0 hl0 k).bud) := hec 8 _ rfl
      have x9 : wr.cell? ⟨eb, eo + k * 11 + 9, none⟩ = some (.int .i64 (atD Pt0 hl0 k).lad) := hec 9 _ rfl
      have x10 : wr.cell? ⟨eb, eo + k * 11 + 10, none⟩ = some (.slice (atD Pt0 hl0 k).acts.A (atD Pt0 hl0 k).acts.l.length (atD Pt0 hl0 k).acts.c) := hec 10 _ rfl
      clear hec
      generalize atD Pt0 hl0 k = x at x0 x1 x2 x3 x4 x5 x6 x7 x8 x9 x10 hT1 hT2 honek
      have hb3 := (Below.refl wr.heap.size wr).alloc (Nat.le_refl _) (.cells #[.slice x.regs.A x.regs.l.length x.regs.c, .slice x.procs.A x.procs.l.length x.procs.c, .slice x.ports.A x.ports.l.length x.ports.c, .slice x.sems.A x.sems.l.length x.sems.c, .int .i64 x.flags, .slice x.pools.A x.pools.l.length x.pools.c, .slice x.slates.A x.slates.l.length x.slates.c, .int .i64 x.cap, .int .i64 x.bud, .int .i64 x.lad, .slice x.acts.A x.acts.l.length x.acts.c] 55)
      have k3 := Blk.new wr 55 #[.slice x.regs.A x.regs.l.length x.regs.c, .slice x.procs.A x.procs.l.length x.procs.c, .slice x.ports.A x.ports.l.length x.ports.c, .slice x.sems.A x.sems.l.length x.sems.c, .int .i64 x.flags, .slice x.pools.A x.pools.l.length x.pools.c, .slice x.slates.A x.slates.l.length x.slates.c, .int .i64 x.cap, .int .i64 x.bud, .int .i64 x.lad, .slice x.acts.A x.acts.l.length x.acts.c]
      go_upto_region 5 with fail
      generalize wr.alloc (.cells #[.slice x.regs.A x.regs.l.length x.regs.c, .slice x.procs.A x.procs.l.length x.procs.c, .slice x.ports.A x.ports.l.length x.ports.c, .slice x.sems.A x.sems.l.length x.sems.c, .int .i64 x.flags, .slice x.pools.A x.pools.l.length x.pools.c, .slice x.slates.A x.slates.l.length x.slates.c, .int .i64 x.cap, .int .i64 x.bud, .int .i64 x.lad, .slice x.acts.A x.acts.l.length x.acts.c] 55) = w3 at hb3 k3 ⊢
      have hw3 := hwr.keep hb3
      have ho3 := hor.keep hb3
      have hq3 := hQ T' T' _ _ hqr (Fr.of_below hb3 T') (fun b hb => ⟨.inl hb, Nat.lt_of_lt_of_le (hwr.bnd b hb) hb3.size⟩)
      have hB3 := hBr.trans (hb3.mono hBr.size)
      have y0 : w3.cell? ⟨wr.heap.size, 0, none⟩ = some (.slice x.regs.A x.regs.l.length x.regs.c) := k3.cell 0
      have y1 : w3.cell? ⟨wr.heap.size, 1, none⟩ = some (.slice x.procs.A x.procs.l.length x.procs.c) := k3.cell 1
      have y2 : w3.cell? ⟨wr.heap.size, 2, none⟩ = some (.slice x.ports.A x.ports.l.length x.ports.c) := k3.cell 2
      have y3 : w3.cell? ⟨wr.heap.size, 3, none⟩ = some (.slice x.sems.A x.sems.l.length x.sems.c) := k3.cell 3
      have y4 : w3.cell? ⟨wr.heap.size, 4, none⟩ = some (.int .i64 x.flags) := k3.cell 4
      have y5 : w3.cell? ⟨wr.heap.size, 5, none⟩ = some (.slice x.pools.A x.pools.l.length x.pools.c) := k3.cell 5
      have y6 : w3.cell? ⟨wr.heap.size, 6, none⟩ = some (.slice x.slates.A x.slates.l.length x.slates.c) := k3.cell 6
      have y7 : w3.cell? ⟨wr.heap.size, 7, none⟩ = some (.int .i64 x.cap) := k3.cell 7
      have y8 : w3.cell? ⟨wr.heap.size, 8, none⟩ = some (.int .i64 x.bud) := k3.cell 8
      have y9 : w3.cell? ⟨wr.heap.size, 9, none⟩ = some (.int .i64 x.lad) := k3.cell 9
      have y10 : w3.cell? ⟨wr.heap.size, 10, none⟩ = some (.slice x.acts.A x.acts.l.length x.acts.c) := k3.cell 10
      have hl3 := k3.lt
      clear x0 x1 x2 x3 x4 x5 x6 x7 x8 x9 x10
      go_wp2_with fail
      refine (list1_Pt (po := po) x honek hQ hq3 hw3 hB3 (by simp only [List.length_append]; omega) ho3).mono ?_
      rintro e w4 ⟨rfl, T4, h4, hf4, hg4⟩
      go_wp2_with fail
      refine ⟨⟨k + 1, T4, by omega, by go_num, ?_, hfr.grw hgr ((Fr.of_below hb3 T').trans hf4), hgr.trans hfr.size (hg4.alloc_left hb3.size)⟩, by simp [intOf]; omega⟩
      rw [hT2.out, ← hT1.out, ← List.append_assoc]
      exact h4
    · obtain rfl : k = hl0.length := by omega
      have HT : Hid (hl0.take hl0.length = hl0) := List.take_length
      rw [HT.out, List.append_assoc] at hwr
      go_wp2_with fail
      go_end0
      exact ⟨rfl, T', hwr, hfr, hgr⟩
set_option maxRecDepth 100000 in
theorem list_Pt {wa : World} {g : Nat} {Q : (Nat → Prop) → World → Prop} {enc : Pt → List UInt8} {bad : Pt → Bool} {h : Hd Pt} {N M : Nat} (hh : rdPts.ok wa h) (hn : h.l.length ≤ 100) (hone : ∀ x ∈ h.l, OneW wa g Q 16 #[.pointer (some ⟨g, 0, none⟩), .agg #[.slice x.regs.A x.regs.l.length x.regs.c, .slice x.procs.A x.procs.l.length x.procs.c, .slice x.ports.A x.ports.l.length x.ports.c, .slice x.sems.A x.sems.l.length x.sems.c, .int .i64 x.flags, .slice x.pools.A x.pools.l.length x.pools.c, .slice x.slates.A x.slates.l.length x.slates.c, .int .i64 x.cap, .int .i64 x.bud, .int .i64 x.lad, .slice x.acts.A x.acts.l.length x.acts.c]] N (enc x) (bad x))
    (hM : ∀ x ∈ h.l, (enc x).length ≤ M) (hN : N ≤ 60000000) {T : Nat → Prop} {W : World} {l : List UInt8} {lg : Bool}
    (hQ : Stq Q) (hq : Q T W) (hw : WrC W wa.heap.size g T l lg) (hB : Below wa.heap.size wa W) (hl : l.length + 11 + 100 * M ≤ N) :
    Calls Tryz.prog 15 #[.pointer (some ⟨g, 0, none⟩), .slice h.A h.l.length h.c, .func (.func 16) #[.pointer (some ⟨g, 0, none⟩)] #[]] W (Wro W wa.heap.size g T (l ++ (vint h.l.length ++ h.l.flatMap enc)) (lg || (decide (64 < h.l.length) || h.l.any bad))) := by
  have hb1 := (Below.refl W.heap.size W).alloc (Nat.le_refl _) (.cells #[.func (.func 16) #[.pointer (some ⟨g, 0, none⟩)] #[]] 67)
  have k1 := Blk.new W 67 #[.func (.func 16) #[.pointer (some ⟨g, 0, none⟩)] #[]]
  have hw1 := hw.keep hb1
  have hT1 : ¬ T W.heap.size := fun h => by have := hw.bnd _ h; omega
  have hq1 := hQ T T _ _ hq (Fr.of_below hb1 T) (fun b hb => ⟨.inl hb, Nat.lt_of_lt_of_le (hw.bnd b hb) hb1.size⟩)
  have hgl := hw1.lt
  go_enter Tryz.func15, Tryz.ntmps15
  go_upto_region 1 with fail
  generalize W.alloc (.cells #[.func (.func 16) #[.pointer (some ⟨g, 0, none⟩)] #[]] 67) = W1 at hb1 k1 hw1 hq1 hgl ⊢
  have hB1 := hB.trans (hb1.mono hB.size)
  have hwg := hw1
  obtain ⟨⟨v, kb, hrow, hv⟩, h6, h7, h8⟩ := hwg
  have c1 : W1.cell? ⟨g, 1, none⟩ = some (.bool lg) := kb.cell 1
  have f1 : W1.frozen? ⟨g, 1, none⟩ = false := kb.frozen 1
  have hpg : W.heap.size ≠ g := fun h => by rw [h] at hT1; exact hT1 hw.tg
  have fin : ∀ lg2 : Bool, (lg || decide (64 < h.l.length)) = lg2 → Hid (Calls Tryz.prog 55 #[.pointer (some ⟨g, 0, none⟩), .slice h.A h.l.length h.c, .func (.func 56) #[] #[.pointer (some ⟨W.heap.size, 0, none⟩)]] (W1.setCell ⟨g, 1, none⟩ (.bool lg2)) (Wro W wa.heap.size g T (l ++ (vint h.l.length ++ h.l.flatMap enc)) (lg || (decide (64 < h.l.length) || h.l.any bad)))) := fun lg2 h2 => by
    have hwn := hw1.setLong lg2
    have hfn : Fr T W1 (W1.setCell ⟨g, 1, none⟩ (.bool lg2)) := (Fr.refl T W1).setCell (p := ⟨g, 1, none⟩) (fun _ => hw.tg) _
    have hgn : Grw T T W1 (W1.setCell ⟨g, 1, none⟩ (.bool lg2)) := fun b hb => ⟨.inl hb, hwn.bnd b hb⟩
    have hBn := hB1.trans (hfn.below (fun b hb h => by have := hw.lo b h; omega) hB1.size)
    refine (put_Pt (po := W.heap.size) hh hn hone hM hN hQ (hQ _ _ _ _ hq1 hfn hgn) hwn hBn hl (k1.fr hfn hT1) hT1).mono ?_
    rintro e W9 ⟨rfl, T9, h9, hf9, hg9⟩
    refine ⟨rfl, T9, ?_, (Fr.of_below hb1 T).trans (hfn.trans hf9), (hg9.alloc_left (W0 := W1) hfn.size).alloc_left hb1.size⟩
    rw [← Bool.or_assoc, h2]
    exact h9
  cases hlg : lg with
  | true =>
    have FN := fin true (by rw [hlg]; rfl)
    rw [hlg] at c1
    clear fin hlg
    go_wp2_with fail
    refine FN.out.mono ?_
    rintro e W9 ⟨rfl, h9⟩
    go_wp2_with fail
    go_end0
    exact ⟨rfl, h9⟩
  | false =>
    rw [hlg] at c1
    have FN := fin (decide (64 < (h.l.length : Int))) (by rw [hlg, Bool.false_or]; exact decide_eq_decide.2 (by omega))
    clear fin hlg
    go_wp2_with fail
    refine FN.out.mono ?_
    rintro e W9 ⟨rfl, h9⟩
    go_wp2_with fail
    go_end0
    exact ⟨rfl, h9⟩
set_option maxRecDepth 100000 in
theorem list1_Md {wa : World} {g po : Nat} {Q : (Nat → Prop) → World → Prop} {enc : List UInt8} {bad : Bool} (x : Md) {N : Nat} (hone : OneW wa g Q 21 #[.pointer (some ⟨g, 0, none⟩), .agg #[.int .i64 x.frame, .slice x.wins.A x.wins.l.length x.wins.c]] N enc bad) {T : Nat → Prop} {W : World} {l : List UInt8} {lg : Bool}
    (hQ : Stq Q) (hq : Q T W) (hw : WrC W wa.heap.size g T l lg) (hB : Below wa.heap.size wa W) (hl : l.length ≤ N) (ho : Blk W po 76 #[.func (.func 21) #[.pointer (some ⟨g, 0, none⟩)] #[]]) :
    Calls Tryz.prog 72 #[.pointer (some ⟨g, 0, none⟩), .agg #[.int .i64 x.frame, .slice x.wins.A x.wins.l.length x.wins.c], .pointer (some ⟨po, 0, none⟩)] W (Wro W wa.heap.size g T (l ++ enc) (lg || bad)) := by
  have hb1 := (Below.refl W.heap.size W).alloc (Nat.le_refl _) (.cells #[.int .i64 x.frame, .slice x.wins.A x.wins.l.length x.wins.c] 58)
  have k1 := Blk.new W 58 #[.int .i64 x.frame, .slice x.wins.A x.wins.l.length x.wins.c]
  have hw1 := hw.keep hb1
  have ho1 := ho.keep hb1
  have hq1 := hQ T T _ _ hq (Fr.of_below hb1 T) (fun b hb => ⟨.inl hb, Nat.lt_of_lt_of_le (hw.bnd b hb) hb1.size⟩)
  have hB1 := hB.trans (hb1.mono hB.size)
  go_enter Tryz.func72, Tryz.ntmps72
  go_upto_region 1 with fail
  generalize W.alloc (.cells #[.int .i64 x.frame, .slice x.wins.A x.wins.l.length x.wins.c] 58) = W1 at hb1 k1 hw1 ho1 hq1 hB1 ⊢
  have c0 : W1.cell? ⟨W.heap.size, 0, none⟩ = some (.int .i64 x.frame) := k1.cell 0
  have c1 : W1.cell? ⟨W.heap.size, 1, none⟩ = some (.slice x.wins.A x.wins.l.length x.wins.c) := k1.cell 1
  have hl1 := k1.lt
  have hlo := ho1.lt
  have o0 : W1.cell? ⟨po, 0, none⟩ = some (.func (.func 21) #[.pointer (some ⟨g, 0, none⟩)] #[]) := ho1.cell 0
  go_wp2_with fail
  refine (hone T W1 l lg hq1 hw1 hB1 hl).mono ?_
  rintro e W2 ⟨rfl, h2⟩
  go_wp2_with fail
  go_end0
  exact Wro.below ⟨rfl, h2⟩ hb1
theorem any_snocMd {bad : Md → Bool} {l : List Md} {k : Nat} (h : k < l.length) (lg : Bool) : (lg || (l.take k).any bad || bad (atD Md0 l k)) = (lg || (l.take (k + 1)).any bad) := by
  rw [take_snocG Md0 l k h]
  simp [Bool.or_assoc]
set_option maxRecDepth 100000 in
theorem put_Md {wa : World} {g po : Nat} {Q : (Nat → Prop) → World → Prop} {enc : Md → List UInt8} {bad : Md → Bool} {h : Hd Md} {N M : Nat} (hh : rdMds.ok wa h) (hn : h.l.length ≤ 100) (hone : ∀ x ∈ h.l, OneW wa g Q 21 #[.pointer (some ⟨g, 0, none⟩), .agg #[.int .i64 x.frame, .slice x.wins.A x.wins.l.length x.wins.c]] N (enc x) (bad x))
    (hM : ∀ x ∈ h.l, (enc x).length ≤ M) (hN : N ≤ 60000000) {T : Nat → Prop} {W : World} {l : List UInt8} {lg : Bool}
    (hQ : Stq Q) (hq : Q T W) (hw : WrC W wa.heap.size g T l lg) (hB : Below wa.heap.size wa W) (hl : l.length + 11 + 100 * M ≤ N) (ho : Blk W po 76 #[.func (.func 21) #[.pointer (some ⟨g, 0, none⟩)] #[]]) (hpo : ¬ T po) :
    Calls Tryz.prog 71 #[.pointer (some ⟨g, 0, none⟩), .slice h.A h.l.length h.c, .func (.func 72) #[] #[.pointer (some ⟨po, 0, none⟩)]] W (Wro W wa.heap.size g T (l ++ (vint h.l.length ++ h.l.flatMap enc)) (lg || h.l.any bad)) := by
  have hgl := hw.lt
  have hBs := hB.size
  obtain ⟨A, c, hl0⟩ := h
  simp only at hh hn hone hM ⊢
  have hvl := vint_len (hl0.length : Int)
  go_enter Tryz.func71, Tryz.ntmps71
  go_wp2_with fail
  refine (writeIntC_any hw hBs (by omega) (n := (hl0.length : Int)) (by unfold i64; omega)).mono ?_
  rintro e w2 ⟨rfl, T2, h2, hf2, hg2⟩
  go_wp2_with fail
  go_loopw [16] (fun i wr => ∃ (k : Nat) (T' : Nat → Prop), k ≤ hl0.length ∧ i = .int .i64 (k : Int) ∧ WrC wr wa.heap.size g T' ((l ++ vint hl0.length) ++ (hl0.take k).flatMap enc) (lg || (hl0.take k).any bad) ∧ Fr T W wr ∧ Grw T T' W wr) (fun i _ => hl0.length - (intOf i).toNat)
  case atStart => exact ⟨0, T2, Nat.zero_le _, rfl, by simpa using h2, hf2, hg2⟩
  case round =>
    obtain ⟨k, T', hk, rfl, hwr, hfr, hgr⟩ := hrel
    have hqr := hQ _ _ _ _ hq hfr hgr
    have hBr := hB.trans (hfr.below (fun b hb h => by have := hw.lo b h; omega) hBs)
    have hor := ho.fr hfr hpo
    by_cases hlt : k < hl0.length
    · have hT1 := Lib.hid (any_snocMd (bad := bad) hlt lg)
      have hT2 : Hid ((hl0.take (k + 1)).flatMap enc = (hl0.take k).flatMap enc ++ enc (atD Md0 hl0 k)) := by
        unfold Hid
        rw [take_snocG Md0 hl0 k hlt, List.flatMap_append]
        simp
      have hfl : ((hl0.take k).flatMap enc).length ≤ k * M := flat_le enc _ (fun x hx => hM x (List.mem_of_mem_take hx)) k (by rw [List.length_take]; omega)
      have hkM : k * M ≤ 100 * M := Nat.mul_le_mul_right M (by omega)
      have honek := hone _ (atD_mem (d := Md0) hlt)
      obtain ⟨eb, eo, rfl, heb, hec⟩ := (rdMds.keep hh hBr).1.at_ Md0 hlt
      have x0 : wr.cell? ⟨eb, eo + k * 2, none⟩ = some (.int .i64 (atD Md0 hl0 k).frame) := hec 0 _ rfl
      have x1 : wr.cell? ⟨eb, eo + k * 2 + 1, none⟩ = some (.slice (atD Md0 hl0 k).wins.A (atD Md0 hl0 k).wins.l.length (atD Md0 hl0 k).wins.c) := hec 1 _ rfl
      clear hec
      generalize atD Md0 hl0 k = x at x0 x1 hT1 hT2 honek
      have hb3 := (Below.refl wr.heap.size wr).alloc (Nat.le_refl _) (.cells #[.int .i64 x.frame, .slice x.wins.A x.wins.l.length x.wins.c] 58)
      have k3 := Blk.new wr 58 #[.int .i64 x.frame, .slice x.wins.A x.wins.l.length x.wins.c]
      go_upto_region 5 with fail
      generalize wr.alloc (.cells #[.int .i64 x.frame, .slice x.wins.A x.wins.l.length x.wins.c] 58) = w3 at hb3 k3 ⊢
      have hw3 := hwr.keep hb3
      have ho3 := hor.keep hb3
      have hq3 := hQ T' T' _ _ hqr (Fr.of_below hb3 T') (fun b hb => ⟨.inl hb, Nat.lt_of_lt_of_le (hwr.bnd b hb) hb3.size⟩)
      have hB3 := hBr.trans (hb3.mono hBr.size)
      have y0 : w3.cell? ⟨wr.heap.size, 0, none⟩ = some (.int .i64 x.frame) := k3.cell 0
      have y1 : w3.cell? ⟨wr.heap.size, 1, none⟩ = some (.slice x.wins.A x.wins.l.length x.wins.c) := k3.cell 1
      have hl3 := k3.lt
      clear x0 x1
      go_wp2_with fail
      refine (list1_Md (po := po) x honek hQ hq3 hw3 hB3 (by simp only [List.length_append]; omega) ho3).mono ?_
      rintro e w4 ⟨rfl, T4, h4, hf4, hg4⟩
      go_wp2_with fail
      refine ⟨⟨k + 1, T4, by omega, by go_num, ?_, hfr.grw hgr ((Fr.of_below hb3 T').trans hf4), hgr.trans hfr.size (hg4.alloc_left hb3.size)⟩, by simp [intOf]; omega⟩
      rw [hT2.out, ← hT1.out, ← List.append_assoc]
      exact h4
    · obtain rfl : k = hl0.length := by omega
      have HT : Hid (hl0.take hl0.length = hl0) := List.take_length
      rw [HT.out, List.append_assoc] at hwr
      go_wp2_with fail
      go_end0
      exact ⟨rfl, T', hwr, hfr, hgr⟩
set_option maxRecDepth 100000 in
theorem list_Md {wa : World} {g : Nat} {Q : (Nat → Prop) → World → Prop} {enc : Md → List UInt8} {bad : Md → Bool} {h : Hd Md} {N M : Nat} (hh : rdMds.ok wa h) (hn : h.l.length ≤ 100) (hone : ∀ x ∈ h.l, OneW wa g Q 21 #[.pointer (some ⟨g, 0, none⟩), .agg #[.int .i64 x.frame, .slice x.wins.A x.wins.l.length x.wins.c]] N (enc x) (bad x))
    (hM : ∀ x ∈ h.l, (enc x).length ≤ M) (hN : N ≤ 60000000) {T : Nat → Prop} {W : World} {l : List UInt8} {lg : Bool}
    (hQ : Stq Q) (hq : Q T W) (hw : WrC W wa.heap.size g T l lg) (hB : Below wa.heap.size wa W) (hl : l.length + 11 + 100 * M ≤ N) :
    Calls Tryz.prog 20 #[.pointer (some ⟨g, 0, none⟩), .slice h.A h.l.length h.c, .func (.func 21) #[.pointer (some ⟨g, 0, none⟩)] #[]] W (Wro W wa.heap.size g T (l ++ (vint h.l.length ++ h.l.flatMap enc)) (lg || (decide (64 < h.l.length) || h.l.any bad))) := by
  have hb1 := (Below.refl W.heap.size W).alloc (Nat.le_refl _) (.cells #[.func (.func 21) #[.pointer (some ⟨g, 0, none⟩)] #[]] 76)
  have k1 := Blk.new W 76 #[.func (.func 21) #[.pointer (some ⟨g, 0, none⟩)] #[]]
  have hw1 := hw.keep hb1
  have hT1 : ¬ T W.heap.size := fun h => by have := hw.bnd _ h; omega
  have hq1 := hQ T T _ _ hq (Fr.of_below hb1 T) (fun b hb => ⟨.inl hb, Nat.lt_of_lt_of_le (hw.bnd b hb) hb1.size⟩)
  have hgl := hw1.lt
  go_enter Tryz.func20, Tryz.ntmps20
  go_upto_region 1 with fail
  generalize W.alloc (.cells #[.func (.func 21) #[.pointer (some ⟨g, 0, none⟩)] #[]] 76) = W1 at hb1 k1 hw1 hq1 hgl ⊢
  have hB1 := hB.trans (hb1.mono hB.size)
  have hwg := hw1
  obtain ⟨⟨v, kb, hrow, hv⟩, h6, h7, h8⟩ := hwg
  have c1 : W1.cell? ⟨g, 1, none⟩ = some (.bool lg) := kb.cell 1
  have f1 : W1.frozen? ⟨g, 1, none⟩ = false := kb.frozen 1
  have hpg : W.heap.size ≠ g := fun h => by rw [h] at hT1; exact hT1 hw.tg
  have fin : ∀ lg2 : Bool, (lg || decide (64 < h.l.length)) = lg2 → Hid (Calls Tryz.prog 71 #[.pointer (some ⟨g, 0, none⟩), .slice h.A h.l.length h.c, .func (.func 72) #[] #[.pointer (some ⟨W.heap.size, 0, none⟩)]] (W1.setCell ⟨g, 1, none⟩ (.bool lg2)) (Wro W wa.heap.size g T (l ++ (vint h.l.length ++ h.l.flatMap enc)) (lg || (decide (64 < h.l.length) || h.l.any bad)))) := fun lg2 h2 => by
    have hwn := hw1.setLong lg2
    have hfn : Fr T W1 (W1.setCell ⟨g, 1, none⟩ (.bool lg2)) := (Fr.refl T W1).setCell (p := ⟨g, 1, none⟩) (fun _ => hw.tg) _
    have hgn : Grw T T W1 (W1.setCell ⟨g, 1, none⟩ (.bool lg2)) := fun b hb => ⟨.inl hb, hwn.bnd b hb⟩
    have hBn := hB1.trans (hfn.below (fun b hb h => by have := hw.lo b h; omega) hB1.size)
    refine (put_Md (po := W.heap.size) hh hn hone hM hN hQ (hQ _ _ _ _ hq1 hfn hgn) hwn hBn hl (k1.fr hfn hT1) hT1).mono ?_
    rintro e W9 ⟨rfl, T9, h9, hf9, hg9⟩
    refine ⟨rfl, T9, ?_, (Fr.of_below hb1 T).trans (hfn.trans hf9), (hg9.alloc_left (W0 := W1) hfn.size).alloc_left hb1.size⟩
    rw [← Bool.or_assoc, h2]
    exact h9
  cases hlg : lg with
  | true =>
    have FN := fin true (by rw [hlg]; rfl)
    rw [hlg] at c1
    clear fin hlg
    go_wp2_with fail
    refine FN.out.mono ?_
    rintro e W9 ⟨rfl, h9⟩
    go_wp2_with fail
    go_end0
    exact ⟨rfl, h9⟩
  | false =>
    rw [hlg] at c1
    have FN := fin (decide (64 < (h.l.length : Int))) (by rw [hlg, Bool.false_or]; exact decide_eq_decide.2 (by omega))
    clear fin hlg
    go_wp2_with fail
    refine FN.out.mono ?_
    rintro e W9 ⟨rfl, h9⟩
    go_wp2_with fail
    go_end0
    exact ⟨rfl, h9⟩
set_option maxRecDepth 100000 in
theorem list1_In {wa : World} {g po : Nat} {Q : (Nat → Prop) → World → Prop} {enc : List UInt8} {bad : Bool} (x : Int) {N : Nat} (hone : OneW wa g Q 66 #[.pointer (some ⟨g, 0, none⟩), .int .i64 x] N enc bad) {T : Nat → Prop} {W : World} {l : List UInt8} {lg : Bool}
    (_hQ : Stq Q) (hq : Q T W) (hw : WrC W wa.heap.size g T l lg) (hB : Below wa.heap.size wa W) (hl : l.length ≤ N) (ho : Blk W po 139 #[.func (.func 66) #[.pointer (some ⟨g, 0, none⟩)] #[]]) :
    Calls Tryz.prog 133 #[.pointer (some ⟨g, 0, none⟩), .int .i64 x, .pointer (some ⟨po, 0, none⟩)] W (Wro W wa.heap.size g T (l ++ enc) (lg || bad)) := by
  have hlo := ho.lt
  have o0 : W.cell? ⟨po, 0, none⟩ = some (.func (.func 66) #[.pointer (some ⟨g, 0, none⟩)] #[]) := ho.cell 0
  go_enter Tryz.func133, Tryz.ntmps133
  go_wp2_with fail
  refine (hone T W l lg hq hw hB hl).mono ?_
  rintro e W2 ⟨rfl, h2⟩
  go_wp2_with fail
  go_end0
  exact ⟨rfl, h2⟩
theorem any_snocIn {bad : Int → Bool} {l : List Int} {k : Nat} (h : k < l.length) (lg : Bool) : (lg || (l.take k).any bad || bad (atD 0 l k)) = (lg || (l.take (k + 1)).any bad) := by
  rw [take_snocG 0 l k h]
  simp [Bool.or_assoc]
set_option maxRecDepth 100000 in
theorem put_In {wa : World} {g po : Nat} {Q : (Nat → Prop) → World → Prop} {enc : Int → List UInt8} {bad : Int → Bool} {h : Hd Int} {N M : Nat} (hh : Hd.okI wa h) (hn : h.l.length ≤ 100) (hone : ∀ x ∈ h.l, OneW wa g Q 66 #[.pointer (some ⟨g, 0, none⟩), .int .i64 x] N (enc x) (bad x))
    (hM : ∀ x ∈ h.l, (enc x).length ≤ M) (hN : N ≤ 60000000) {T : Nat → Prop} {W : World} {l : List UInt8} {lg : Bool}
    (hQ : Stq Q) (hq : Q T W) (hw : WrC W wa.heap.size g T l lg) (hB : Below wa.heap.size wa W) (hl : l.length + 11 + 100 * M ≤ N) (ho : Blk W po 139 #[.func (.func 66) #[.pointer (some ⟨g, 0, none⟩)] #[]]) (hpo : ¬ T po) :
    Calls Tryz.prog 132 #[.pointer (some ⟨g, 0, none⟩), .slice h.A h.l.length h.c, .func (.func 133) #[] #[.pointer (some ⟨po, 0, none⟩)]] W (Wro W wa.heap.size g T (l ++ (vint h.l.length ++ h.l.flatMap enc)) (lg || h.l.any bad)) := by
  have hgl := hw.lt
  have hBs := hB.size
  obtain ⟨A, c, hl0⟩ := h
  simp only at hh hn hone hM ⊢
  have hvl := vint_len (hl0.length : Int)
  go_enter Tryz.func132, Tryz.ntmps132
  go_wp2_with fail
  refine (writeIntC_any hw hBs (by omega) (n := (hl0.length : Int)) (by unfold i64; omega)).mono ?_
  rintro e w2 ⟨rfl, T2, h2, hf2, hg2⟩
  go_wp2_with fail
  go_loopw [16] (fun i wr => ∃ (k : Nat) (T' : Nat → Prop), k ≤ hl0.length ∧ i = .int .i64 (k : Int) ∧ WrC wr wa.heap.size g T' ((l ++ vint hl0.length) ++ (hl0.take k).flatMap enc) (lg || (hl0.take k).any bad) ∧ Fr T W wr ∧ Grw T T' W wr) (fun i _ => hl0.length - (intOf i).toNat)
  case atStart => exact ⟨0, T2, Nat.zero_le _, rfl, by simpa using h2, hf2, hg2⟩
  case round =>
    obtain ⟨k, T', hk, rfl, hwr, hfr, hgr⟩ := hrel
    have hqr := hQ _ _ _ _ hq hfr hgr
    have hBr := hB.trans (hfr.below (fun b hb h => by have := hw.lo b h; omega) hBs)
    have hor := ho.fr hfr hpo
    by_cases hlt : k < hl0.length
    · have hT1 := Lib.hid (any_snocIn (bad := bad) hlt lg)
      have hT2 : Hid ((hl0.take (k + 1)).flatMap enc = (hl0.take k).flatMap enc ++ enc (atD 0 hl0 k)) := by
        unfold Hid
        rw [take_snocG 0 hl0 k hlt, List.flatMap_append]
        simp
      have hfl : ((hl0.take k).flatMap enc).length ≤ k * M := flat_le enc _ (fun x hx => hM x (List.mem_of_mem_take hx)) k (by rw [List.length_take]; omega)
      have hkM : k * M ≤ 100 * M := Nat.mul_le_mul_right M (by omega)
      have honek := hone _ (atD_mem (d := 0) hlt)
      obtain ⟨eb, eo, rfl, heb, hec⟩ := (SlI.keep hh hBr).at_ hlt
      rw [at0_atD] at hec
      generalize atD 0 hl0 k = x at hec hT1 hT2 honek
      have hw3 := hwr
      have ho3 := hor
      have hq3 := hqr
      have hB3 := hBr
      go_wp2_with fail
      refine (list1_In (po := po) x honek hQ hq3 hw3 hB3 (by simp only [List.length_append]; omega) ho3).mono ?_
      rintro e w4 ⟨rfl, T4, h4, hf4, hg4⟩
      go_wp2_with fail
      refine ⟨⟨k + 1, T4, by omega, by go_num, ?_, hfr.grw hgr hf4, hgr.trans hfr.size hg4⟩, by simp [intOf]; omega⟩
      rw [hT2.out, ← hT1.out, ← List.append_assoc]
      exact h4
    · obtain rfl : k = hl0.length := by omega
      have HT : Hid (hl0.take hl0.length = hl0) := List.take_length
      rw [HT.out, List.append_assoc] at hwr
      go_wp2_with fail
      go_end0
      exact ⟨rfl, T', hwr, hfr, hgr⟩
set_option maxRecDepth 100000 in
theorem list_In {wa : World} {g : Nat} {Q : (Nat → Prop) → World → Prop} {enc : Int → List UInt8} {bad : Int → Bool} {h : Hd Int} {N M : Nat} (hh : Hd.okI wa h) (hn : h.l.length ≤ 100) (hone : ∀ x ∈ h.l, OneW wa g Q 66 #[.pointer (some ⟨g, 0, none⟩), .int .i64 x] N (enc x) (bad x))
    (hM : ∀ x ∈ h.l, (enc x).length ≤ M) (hN : N ≤ 60000000) {T : Nat → Prop} {W : World} {l : List UInt8} {lg : Bool}
    (hQ : Stq Q) (hq : Q T W) (hw : WrC W wa.heap.size g T l lg) (hB : Below wa.heap.size wa W) (hl : l.length + 11 + 100 * M ≤ N) :
    Calls Tryz.prog 79 #[.pointer (some ⟨g, 0, none⟩), .slice h.A h.l.length h.c, .func (.func 66) #[.pointer (some ⟨g, 0, none⟩)] #[]] W (Wro W wa.heap.size g T (l ++ (vint h.l.length ++ h.l.flatMap enc)) (lg || (decide (64 < h.l.length) || h.l.any bad))) := by
  have hb1 := (Below.refl W.heap.size W).alloc (Nat.le_refl _) (.cells #[.func (.func 66) #[.pointer (some ⟨g, 0, none⟩)] #[]] 139)
  have k1 := Blk.new W 139 #[.func (.func 66) #[.pointer (some ⟨g, 0, none⟩)] #[]]
  have hw1 := hw.keep hb1
  have hT1 : ¬ T W.heap.size := fun h => by have := hw.bnd _ h; omega
  have hq1 := hQ T T _ _ hq (Fr.of_below hb1 T) (fun b hb => ⟨.inl hb, Nat.lt_of_lt_of_le (hw.bnd b hb) hb1.size⟩)
  have hgl := hw1.lt
  go_enter Tryz.func79, Tryz.ntmps79
  go_upto_region 1 with fail
  generalize W.alloc (.cells #[.func (.func 66) #[.pointer (some ⟨g, 0, none⟩)] #[]] 139) = W1 at hb1 k1 hw1 hq1 hgl ⊢
  have hB1 := hB.trans (hb1.mono hB.size)
  have hwg := hw1
  obtain ⟨⟨v, kb, hrow, hv⟩, h6, h7, h8⟩ := hwg
  have c1 : W1.cell? ⟨g, 1, none⟩ = some (.bool lg) := kb.cell 1
  have f1 : W1.frozen? ⟨g, 1, none⟩ = false := kb.frozen 1
  have hpg : W.heap.size ≠ g := fun h => by rw [h] at hT1; exact hT1 hw.tg
  have fin : ∀ lg2 : Bool, (lg || decide (64 < h.l.length)) = lg2 → Hid (Calls Tryz.prog 132 #[.pointer (some ⟨g, 0, none⟩), .slice h.A h.l.length h.c, .func (.func 133) #[] #[.pointer (some ⟨W.heap.size, 0, none⟩)]] (W1.setCell ⟨g, 1, none⟩ (.bool lg2)) (Wro W wa.heap.size g T (l ++ (vint h.l.length ++ h.l.flatMap enc)) (lg || (decide (64 < h.l.length) || h.l.any bad)))) := fun lg2 h2 => by
    have hwn := hw1.setLong lg2
    have hfn : Fr T W1 (W1.setCell ⟨g, 1, none⟩ (.bool lg2)) := (Fr.refl T W1).setCell (p := ⟨g, 1, none⟩) (fun _ => hw.tg) _
    have hgn : Grw T T W1 (W1.setCell ⟨g, 1, none⟩ (.bool lg2)) := fun b hb => ⟨.inl hb, hwn.bnd b hb⟩
    have hBn := hB1.trans (hfn.below (fun b hb h => by have := hw.lo b h; omega) hB1.size)
    refine (put_In (po := W.heap.size) hh hn hone hM hN hQ (hQ _ _ _ _ hq1 hfn hgn) hwn hBn hl (k1.fr hfn hT1) hT1).mono ?_
    rintro e W9 ⟨rfl, T9, h9, hf9, hg9⟩
    refine ⟨rfl, T9, ?_, (Fr.of_below hb1 T).trans (hfn.trans hf9), (hg9.alloc_left (W0 := W1) hfn.size).alloc_left hb1.size⟩
    rw [← Bool.or_assoc, h2]
    exact h9
  cases hlg : lg with
  | true =>
    have FN := fin true (by rw [hlg]; rfl)
    rw [hlg] at c1
    clear fin hlg
    go_wp2_with fail
    refine FN.out.mono ?_
    rintro e W9 ⟨rfl, h9⟩
    go_wp2_with fail
    go_end0
    exact ⟨rfl, h9⟩
  | false =>
    rw [hlg] at c1
    have FN := fin (decide (64 < (h.l.length : Int))) (by rw [hlg, Bool.false_or]; exact decide_eq_decide.2 (by omega))
    clear fin hlg
    go_wp2_with fail
    refine FN.out.mono ?_
    rintro e W9 ⟨rfl, h9⟩
    go_wp2_with fail
    go_end0
    exact ⟨rfl, h9⟩
end Go.Proofs.YtahjnonkhbpnpaaGreat
/- The walk of the document's Short. Printed by wip/gen_short.py. -/
namespace Go.Proofs.YtahjnonkhbpnpaaGreat
open Go.RowKit
def Cf.v (x : Cf) : Value := .agg #[.slice x.parts.A x.parts.l.length x.parts.c, .slice x.chans.A x.chans.l.length x.chans.c, .slice x.modes.A x.modes.l.length x.modes.c, .slice x.pw.levels.A x.pw.levels.l.length x.pw.levels.c, .slice x.pw.naps.A x.pw.naps.l.length x.pw.naps.c, .int .i64 x.pw.sw, .int .i64 x.pw.idle, .int .i64 x.pw.change, .int .i64 x.pw.quant, .int .i64 x.pw.slow, .int .i64 x.pw.ppm, .slice x.shed.down.A x.shed.down.l.length x.shed.down.c, .slice x.shed.up.A x.shed.up.l.length x.shed.up.c]
def Pt.short (p : Pt) : Prop := p.regs.l.length ≤ 100 ∧ p.procs.l.length ≤ 100 ∧ p.ports.l.length ≤ 100 ∧ p.sems.l.length ≤ 100 ∧ p.pools.l.length ≤ 100 ∧ p.slates.l.length ≤ 100 ∧ p.acts.l.length ≤ 100
/-- a configuration with short lists. -/
def Cf.short (x : Cf) : Prop := (x.parts.l.length ≤ 100 ∧ x.chans.l.length ≤ 100 ∧ x.modes.l.length ≤ 100 ∧ x.pw.levels.l.length ≤ 100 ∧ x.pw.naps.l.length ≤ 100 ∧ x.shed.down.l.length ≤ 100 ∧ x.shed.up.l.length ≤ 100) ∧
  (∀ p ∈ x.parts.l, p.short) ∧ ∀ m ∈ x.modes.l, m.wins.l.length ≤ 100
def ShortPost (x : Cf) (w : World) (e : Ending) (w' : World) : Prop := ∃ b, e = .returned (.bool b) ∧ (b = true → x.short) ∧ Below w.heap.size w w'
theorem all_take_succ {α : Type} {d : α} {p : α → Prop} {l : List α} {k : Nat} (hk : k < l.length) (h : ∀ x ∈ l.take k, p x) (h' : p (atD d l k)) : ∀ x ∈ l.take (k + 1), p x := by
  rw [take_snocG d l k hk]
  intro x hx
  rcases List.mem_append.1 hx with hx | hx
  · exact h x hx
  · rw [List.mem_singleton.1 hx]; exact h'
theorem shortPost_no {x : Cf} {w w' : World} (h : Below w.heap.size w w') : ShortPost x w (.returned (.bool false)) w' := ⟨false, rfl, (fun h => by cases h), h⟩
set_option maxRecDepth 100000 in
set_option maxHeartbeats 6400000 in
theorem short_any {x : Cf} {w : World} (hx : x.ok w) :
    Calls Tryz.prog 7 #[x.v] w (ShortPost x w) := by
  have hb := ((Below.refl w.heap.size w).alloc (Nat.le_refl _) (.cells #[.slice x.parts.A x.parts.l.length x.parts.c, .slice x.chans.A x.chans.l.length x.chans.c, .slice x.modes.A x.modes.l.length x.modes.c, .slice x.pw.levels.A x.pw.levels.l.length x.pw.levels.c, .slice x.pw.naps.A x.pw.naps.l.length x.pw.naps.c, .int .i64 x.pw.sw, .int .i64 x.pw.idle, .int .i64 x.pw.change, .int .i64 x.pw.quant, .int .i64 x.pw.slow, .int .i64 x.pw.ppm, .slice x.shed.down.A x.shed.down.l.length x.shed.down.c, .slice x.shed.up.A x.shed.up.l.length x.shed.up.c] 33))
  have b1 := Blk.new w 33 #[.slice x.parts.A x.parts.l.length x.parts.c, .slice x.chans.A x.chans.l.length x.chans.c, .slice x.modes.A x.modes.l.length x.modes.c, .slice x.pw.levels.A x.pw.levels.l.length x.pw.levels.c, .slice x.pw.naps.A x.pw.naps.l.length x.pw.naps.c, .int .i64 x.pw.sw, .int .i64 x.pw.idle, .int .i64 x.pw.change, .int .i64 x.pw.quant, .int .i64 x.pw.slow, .int .i64 x.pw.ppm, .slice x.shed.down.A x.shed.down.l.length x.shed.down.c, .slice x.shed.up.A x.shed.up.l.length x.shed.up.c]
  have hn0 := hx.1.1.len
  have hn1 := hx.2.1.1.len
  have hn2 := hx.2.2.1.1.len
  have hn3 := hx.2.2.2.1.1.1.len
  have hn4 := hx.2.2.2.1.2.1.1.len
  have hn5 := hx.2.2.2.2.1.len
  have hn6 := hx.2.2.2.2.2.len
  simp only [Cf.v]
  go_enter Tryz.func7, Tryz.ntmps7
  go_upto_region 1 with fail
  generalize w.alloc (.cells #[.slice x.parts.A x.parts.l.length x.parts.c, .slice x.chans.A x.chans.l.length x.chans.c, .slice x.modes.A x.modes.l.length x.modes.c, .slice x.pw.levels.A x.pw.levels.l.length x.pw.levels.c, .slice x.pw.naps.A x.pw.naps.l.length x.pw.naps.c, .int .i64 x.pw.sw, .int .i64 x.pw.idle, .int .i64 x.pw.change, .int .i64 x.pw.quant, .int .i64 x.pw.slow, .int .i64 x.pw.ppm, .slice x.shed.down.A x.shed.down.l.length x.shed.down.c, .slice x.shed.up.A x.shed.up.l.length x.shed.up.c] 33) = w1 at hb b1 ⊢
  have c0 : w1.cell? ⟨w.heap.size, 0, none⟩ = some (.slice x.parts.A x.parts.l.length x.parts.c) := b1.cell 0
  have c1 : w1.cell? ⟨w.heap.size, 1, none⟩ = some (.slice x.chans.A x.chans.l.length x.chans.c) := b1.cell 1
  have c2 : w1.cell? ⟨w.heap.size, 2, none⟩ = some (.slice x.modes.A x.modes.l.length x.modes.c) := b1.cell 2
  have c3 : w1.cell? ⟨w.heap.size, 3, none⟩ = some (.slice x.pw.levels.A x.pw.levels.l.length x.pw.levels.c) := b1.cell 3
  have c4 : w1.cell? ⟨w.heap.size, 4, none⟩ = some (.slice x.pw.naps.A x.pw.naps.l.length x.pw.naps.c) := b1.cell 4
  have c11 : w1.cell? ⟨w.heap.size, 11, none⟩ = some (.slice x.shed.down.A x.shed.down.l.length x.shed.down.c) := b1.cell 11
  have c12 : w1.cell? ⟨w.heap.size, 12, none⟩ = some (.slice x.shed.up.A x.shed.up.l.length x.shed.up.c) := b1.cell 12
  have hs := hb.size
  by_cases h1 : 100 < x.parts.l.length
  · have _d := True.intro
    go_wp2_with fail
    go_ret
    exact shortPost_no hb
  · have _d := True.intro
    by_cases h2 : 100 < x.chans.l.length
    · have _d := True.intro
      go_wp2_with fail
      go_ret
      exact shortPost_no hb
    · have _d := True.intro
      by_cases h3 : 100 < x.modes.l.length
      · have _d := True.intro
        go_wp2_with fail
        go_ret
        exact shortPost_no hb
      · have _d := True.intro
        by_cases h4 : 100 < x.pw.levels.l.length
        · have _d := True.intro
          go_wp2_with fail
          go_ret
          exact shortPost_no hb
        · have _d := True.intro
          by_cases h5 : 100 < x.pw.naps.l.length
          · have _d := True.intro
            go_wp2_with fail
            go_ret
            exact shortPost_no hb
          · have _d := True.intro
            by_cases h6 : 100 < x.shed.down.l.length
            · have _d := True.intro
              go_wp2_with fail
              go_ret
              exact shortPost_no hb
            · have _d := True.intro
              by_cases h7 : 100 < x.shed.up.l.length
              · have _d := True.intro
                go_wp2_with fail
                go_ret
                exact shortPost_no hb
              · have _d := True.intro
                obtain ⟨wo, rfl⟩ : ∃ wo : World, wo = w := ⟨_, rfl⟩
                have H7 : Hid (x.parts.l.length ≤ 100 ∧ x.chans.l.length ≤ 100 ∧ x.modes.l.length ≤ 100 ∧ x.pw.levels.l.length ≤ 100 ∧ x.pw.naps.l.length ≤ 100 ∧ x.shed.down.l.length ≤ 100 ∧ x.shed.up.l.length ≤ 100) := ⟨by omega, by omega, by omega, by omega, by omega, by omega, by omega⟩
                go_wp2_with fail
                go_loopw [3] (fun i wr => ∃ k : Nat, k ≤ x.parts.l.length ∧ i = .int .i64 (k : Int) ∧ (∀ p ∈ x.parts.l.take k, p.short) ∧ Below w1.heap.size w1 wr) (fun i _ => x.parts.l.length - (intOf i).toNat)
                case atStart => exact ⟨0, Nat.zero_le _, rfl, (fun p hp => by simp at hp), Below.refl _ _⟩
                case round =>
                  obtain ⟨k, hk, rfl, hps, hbw⟩ := hrel
                  have HP := Lib.hid hps
                  clear hps
                  have bw := b1.keep hbw
                  clear c0 c1 c2 c3 c4 c11 c12
                  have hB := hb.trans (hbw.mono hb.size)
                  have hBs := hB.size
                  have hlw := bw.lt
                  by_cases hlt : k < x.parts.l.length
                  · obtain ⟨pb, po, hA, hpb, hpc⟩ := (rdPts.keep hx.1 hB).1.at_ Pt0 hlt
                    have hpk := (rdPts.keep hx.1 hB).2 _ (atD_mem (d := Pt0) hlt)
                    have c0 : wr.cell? ⟨wo.heap.size, 0, none⟩ = some (.slice x.parts.A x.parts.l.length x.parts.c) := bw.cell 0
                    rw [hA] at c0
                    have HS := fun (h : (atD Pt0 x.parts.l k).short) => all_take_succ hlt HP.out h
                    have x0 : wr.cell? ⟨pb, po + k * 11, none⟩ = some (.slice (atD Pt0 x.parts.l k).regs.A (atD Pt0 x.parts.l k).regs.l.length (atD Pt0 x.parts.l k).regs.c) := hpc 0 _ rfl
                    have x1 : wr.cell? ⟨pb, po + k * 11 + 1, none⟩ = some (.slice (atD Pt0 x.parts.l k).procs.A (atD Pt0 x.parts.l k).procs.l.length (atD Pt0 x.parts.l k).procs.c) := hpc 1 _ rfl
                    have x2 : wr.cell? ⟨pb, po + k * 11 + 2, none⟩ = some (.slice (atD Pt0 x.parts.l k).ports.A (atD Pt0 x.parts.l k).ports.l.length (atD Pt0 x.parts.l k).ports.c) := hpc 2 _ rfl
                    have x3 : wr.cell? ⟨pb, po + k * 11 + 3, none⟩ = some (.slice (atD Pt0 x.parts.l k).sems.A (atD Pt0 x.parts.l k).sems.l.length (atD Pt0 x.parts.l k).sems.c) := hpc 3 _ rfl
                    have x4 : wr.cell? ⟨pb, po + k * 11 + 4, none⟩ = some (.int .i64 (atD Pt0 x.parts.l k).flags) := hpc 4 _ rfl
                    have x5 : wr.cell? ⟨pb, po + k * 11 + 5, none⟩ = some (.slice (atD Pt0 x.parts.l k).pools.A (atD Pt0 x.parts.l k).pools.l.length (atD Pt0 x.parts.l k).pools.c) := hpc 5 _ rfl
                    have x6 : wr.cell? ⟨pb, po + k * 11 + 6, none⟩ = some (.slice (atD Pt0 x.parts.l k).slates.A (atD Pt0 x.parts.l k).slates.l.length (atD Pt0 x.parts.l k).slates.c) := hpc 6 _ rfl
                    have x7 : wr.cell? ⟨pb, po + k * 11 + 7, none⟩ = some (.int .i64 (atD Pt0 x.parts.l k).cap) := hpc 7 _ rfl
                    have x8 : wr.cell? ⟨pb, po + k * 11 + 8, none⟩ = some (.int .i64 (atD Pt0 x.parts.l k).bud) := hpc 8 _ rfl
                    have x9 : wr.cell? ⟨pb, po + k * 11 + 9, none⟩ = some (.int .i64 (atD Pt0 x.parts.l k).lad) := hpc 9 _ rfl
                    have x10 : wr.cell? ⟨pb, po + k * 11 + 10, none⟩ = some (.slice (atD Pt0 x.parts.l k).acts.A (atD Pt0 x.parts.l k).acts.l.length (atD Pt0 x.parts.l k).acts.c) := hpc 10 _ rfl
                    clear hpc hA
                    generalize atD Pt0 x.parts.l k = p at hpk HS x0 x1 x2 x3 x4 x5 x6 x7 x8 x9 x10 ⊢
                    have hm0 := hpk.1.1.len
                    have hm1 := hpk.2.1.1.len
                    have hm2 := hpk.2.2.1.1.len
                    have hm3 := hpk.2.2.2.1.1.len
                    have hm4 := hpk.2.2.2.2.2.1.1.len
                    have hm5 := hpk.2.2.2.2.2.2.1.len
                    have hm6 := hpk.2.2.2.2.2.2.2.2.2.2.len
                    have HQ := Lib.hid HS
                    clear HS
                    have hb6 := (Below.refl wr.heap.size wr).alloc (Nat.le_refl _) (.cells #[.slice p.regs.A p.regs.l.length p.regs.c, .slice p.procs.A p.procs.l.length p.procs.c, .slice p.ports.A p.ports.l.length p.ports.c, .slice p.sems.A p.sems.l.length p.sems.c, .int .i64 p.flags, .slice p.pools.A p.pools.l.length p.pools.c, .slice p.slates.A p.slates.l.length p.slates.c, .int .i64 p.cap, .int .i64 p.bud, .int .i64 p.lad, .slice p.acts.A p.acts.l.length p.acts.c] 55)
                    have b6 := Blk.new wr 55 #[.slice p.regs.A p.regs.l.length p.regs.c, .slice p.procs.A p.procs.l.length p.procs.c, .slice p.ports.A p.ports.l.length p.ports.c, .slice p.sems.A p.sems.l.length p.sems.c, .int .i64 p.flags, .slice p.pools.A p.pools.l.length p.pools.c, .slice p.slates.A p.slates.l.length p.slates.c, .int .i64 p.cap, .int .i64 p.bud, .int .i64 p.lad, .slice p.acts.A p.acts.l.length p.acts.c]
                    go_upto_region 7 with fail
                    generalize wr.alloc (.cells #[.slice p.regs.A p.regs.l.length p.regs.c, .slice p.procs.A p.procs.l.length p.procs.c, .slice p.ports.A p.ports.l.length p.ports.c, .slice p.sems.A p.sems.l.length p.sems.c, .int .i64 p.flags, .slice p.pools.A p.pools.l.length p.pools.c, .slice p.slates.A p.slates.l.length p.slates.c, .int .i64 p.cap, .int .i64 p.bud, .int .i64 p.lad, .slice p.acts.A p.acts.l.length p.acts.c] 55) = w6 at hb6 b6 ⊢
                    have hB6 := hB.trans (hb6.mono hB.size)
                    have hbw6 := hbw.trans (hb6.mono hbw.size)
                    clear x0 x1 x2 x3 x4 x5 x6 x7 x8 x9 x10
                    have y0 : w6.cell? ⟨wr.heap.size, 0, none⟩ = some (.slice p.regs.A p.regs.l.length p.regs.c) := b6.cell 0
                    have y1 : w6.cell? ⟨wr.heap.size, 1, none⟩ = some (.slice p.procs.A p.procs.l.length p.procs.c) := b6.cell 1
                    have y2 : w6.cell? ⟨wr.heap.size, 2, none⟩ = some (.slice p.ports.A p.ports.l.length p.ports.c) := b6.cell 2
                    have y3 : w6.cell? ⟨wr.heap.size, 3, none⟩ = some (.slice p.sems.A p.sems.l.length p.sems.c) := b6.cell 3
                    have y5 : w6.cell? ⟨wr.heap.size, 5, none⟩ = some (.slice p.pools.A p.pools.l.length p.pools.c) := b6.cell 5
                    have y6 : w6.cell? ⟨wr.heap.size, 6, none⟩ = some (.slice p.slates.A p.slates.l.length p.slates.c) := b6.cell 6
                    have y10 : w6.cell? ⟨wr.heap.size, 10, none⟩ = some (.slice p.acts.A p.acts.l.length p.acts.c) := b6.cell 10
                    by_cases h1 : 100 < p.regs.l.length
                    · have _d := True.intro
                      go_wp2_with fail
                      go_ret
                      exact shortPost_no hB6
                    · have _d := True.intro
                      by_cases h2 : 100 < p.procs.l.length
                      · have _d := True.intro
                        go_wp2_with fail
                        go_ret
                        exact shortPost_no hB6
                      · have _d := True.intro
                        by_cases h3 : 100 < p.ports.l.length
                        · have _d := True.intro
                          go_wp2_with fail
                          go_ret
                          exact shortPost_no hB6
                        · have _d := True.intro
                          by_cases h4 : 100 < p.sems.l.length
                          · have _d := True.intro
                            go_wp2_with fail
                            go_ret
                            exact shortPost_no hB6
                          · have _d := True.intro
                            by_cases h5 : 100 < p.pools.l.length
                            · have _d := True.intro
                              go_wp2_with fail
                              go_ret
                              exact shortPost_no hB6
                            · have _d := True.intro
                              by_cases h6 : 100 < p.slates.l.length
                              · have _d := True.intro
                                go_wp2_with fail
                                go_ret
                                exact shortPost_no hB6
                              · have _d := True.intro
                                by_cases h7 : 100 < p.acts.l.length
                                · have _d := True.intro
                                  go_wp2_with fail
                                  go_ret
                                  exact shortPost_no hB6
                                · have _d := True.intro
                                  have H8 := HQ.out ⟨by omega, by omega, by omega, by omega, by omega, by omega, by omega⟩
                                  have H9 := Lib.hid H8
                                  clear H8
                                  go_wp2_with fail
                                  exact ⟨⟨k + 1, by omega, by go_num, H9.out, hbw6⟩, by simp [intOf]; omega⟩
                  · obtain rfl : k = x.parts.l.length := by omega
                    have HP2 : Hid (∀ p ∈ x.parts.l, p.short) := by have := HP.out; rw [List.take_length] at this; exact this
                    clear HP
                    have c0 : wr.cell? ⟨wo.heap.size, 0, none⟩ = some (.slice x.parts.A x.parts.l.length x.parts.c) := bw.cell 0
                    have c2 : wr.cell? ⟨wo.heap.size, 2, none⟩ = some (.slice x.modes.A x.modes.l.length x.modes.c) := bw.cell 2
                    obtain ⟨w2, rfl⟩ : ∃ w2 : World, w2 = wr := ⟨_, rfl⟩
                    go_wp2_with fail
                    go_loopw [5] (fun i wr => ∃ k : Nat, k ≤ x.modes.l.length ∧ i = .int .i64 (k : Int) ∧ (∀ m ∈ x.modes.l.take k, m.wins.l.length ≤ 100) ∧ w2 = wr) (fun i _ => x.modes.l.length - (intOf i).toNat)
                    case atStart => exact ⟨0, Nat.zero_le _, rfl, (fun p hp => by simp at hp), rfl⟩
                    case round =>
                      obtain ⟨k, hk, rfl, hps, rfl⟩ := hrel
                      have HP := Lib.hid hps
                      clear hps
                      by_cases hlt : k < x.modes.l.length
                      · obtain ⟨mb, mo, hA, hmb, hmc⟩ := (rdMds.keep hx.2.2.1 hB).1.at_ Md0 hlt
                        have hmk := (rdMds.keep hx.2.2.1 hB).2 _ (atD_mem (d := Md0) hlt)
                        have m1 : w2.cell? ⟨mb, mo + k * 2 + 1, none⟩ = some (.slice (atD Md0 x.modes.l k).wins.A (atD Md0 x.modes.l k).wins.l.length (atD Md0 x.modes.l k).wins.c) := hmc 1 _ rfl
                        have HS := fun (h : (atD Md0 x.modes.l k).wins.l.length ≤ 100) => all_take_succ (p := fun m : Md => m.wins.l.length ≤ 100) hlt HP.out h
                        have hmn := hmk.2.1.len
                        rw [hA] at c2
                        clear hmc hA hmk
                        generalize atD Md0 x.modes.l k = m at HS m1 hmn
                        by_cases hw : 100 < m.wins.l.length
                        · clear HS
                          go_wp2_with fail
                          go_ret
                          exact shortPost_no hB
                        · have HQ := Lib.hid (HS (by omega))
                          clear HS
                          go_wp2_with fail
                          exact ⟨⟨k + 1, by omega, by go_num, HQ.out, by first | trivial | rfl⟩, by simp [intOf]; omega⟩
                      · obtain rfl : k = x.modes.l.length := by omega
                        go_wp2_with fail
                        go_ret
                        have hM := HP.out
                        rw [List.take_length] at hM
                        exact ⟨true, rfl, fun _ => ⟨H7.out, HP2.out, hM⟩, hB⟩
end Go.Proofs.YtahjnonkhbpnpaaGreat
