/- The document's memory: Load, Store, Word, Put walked. -/
import Derived.Test.YtpgglefimdllbaaMrSt
import Derived.Laws.AppendOwnNone
namespace Go.Proofs.Ytpgglefimdllbaa
open Go.RowKit
/-- append(out, b...): b is not empty; out is owned. -/
theorem wpList_appB {ops : Array Oper} {rest : List Oper} {o : Oper} {a : Act} {Q : Exit → Act → World → Prop} (w : World) (hgd : o.guard = none) (s x : Operand)
    (ho : o.op = .call { callee := .builtin .append, args := #[s, x], argTypes := #[39, 39] })
    (base : Nat) (v : Value) (n : Nat) (l1 : List UInt8) (hs : a.eval s = v) (hown : w.ownsRow base 5 1 v n (l1.map bv))
    (A : Option Addr) (m c : Nat) (l2 : List UInt8) (hsrc : SlB w A m c l2) (hm : 0 < m) (hx : a.eval x = .slice A m c) (hn : n + m ≤ 1000000) (hbase : base ≤ w.heap.size)
    (h : ∀ v' w', w'.ownsRow base 5 1 v' (n + m) ((l1 ++ l2).map bv) → Fr (fun k => v.ownBlock = some k) w w' → (v'.ownBlock = v.ownBlock ∨ v'.ownBlock = some w.heap.size) → wpList Try.prog ops Q rest (a.put o.dst v') w') :
    wpList Try.prog ops Q (o :: rest) a w := by
  obtain ⟨i0, hi0, hz0, hz1, hz2⟩ := info_parts byte_info
  obtain ⟨b, of, rfl, hb, hc⟩ := hsrc.1.at_ hm
  have hl2 := hsrc.2
  refine wpList_append_own_at w hgd s x 39 ho base 5 i0 _ 1 1 Try.underlying39 hi0 hz0 hz1 hz2 rfl (by decide) v n _ hs hown ⟨b, of, none⟩ m c (l2.map bv) hx (by simp; omega) (fun j u hu => by rw [add_none]; exact hc j u hu) (bv_cell l2) (by unfold maxLen; omega) (by omega) hbase ?_
  intro v' w' h1 h2 _ h4
  exact h v' w' (by rw [List.map_append]; exact h1) ((Fr.refl _ w).grown h2 (fun k _ hk => hk)) h4
/-- append(out, b...): b may be empty; out is owned. -/
theorem wpList_appB0 {ops : Array Oper} {rest : List Oper} {o : Oper} {a : Act} {Q : Exit → Act → World → Prop} (w : World) (hgd : o.guard = none) (s x : Operand)
    (ho : o.op = .call { callee := .builtin .append, args := #[s, x], argTypes := #[39, 39] })
    (base : Nat) (v : Value) (n : Nat) (l1 : List UInt8) (hs : a.eval s = v) (hown : w.ownsRow base 5 1 v n (l1.map bv))
    (A : Option Addr) (m c : Nat) (l2 : List UInt8) (hsrc : SlB w A m c l2) (hx : a.eval x = .slice A m c) (hn : n + m ≤ 1000000) (hbase : base ≤ w.heap.size)
    (h : ∀ v' w', w'.ownsRow base 5 1 v' (n + m) ((l1 ++ l2).map bv) → Fr (fun k => v.ownBlock = some k) w w' → wpList Try.prog ops Q rest (a.put o.dst v') w') :
    wpList Try.prog ops Q (o :: rest) a w := by
  by_cases hm : 0 < m
  · exact wpList_appB w hgd s x ho base v n l1 hs hown A m c l2 hsrc hm hx hn hbase fun v' w' h1 h2 _ => h v' w' h1 h2
  · obtain rfl : m = 0 := by omega
    have hl2 : l2 = [] := List.eq_nil_of_length_eq_zero hsrc.2
    subst hl2
    obtain ⟨i0, hi0, hz0, hz1, hz2⟩ := info_parts byte_info
    cases A with
    | none =>
      have hc := hsrc.1.2.2.2.1 rfl
      subst hc
      exact wpList_append_own_none hgd s x 39 ho base 5 i0 1 Try.underlying39 hi0 v n _ hs hown hx (h v w (by simpa using hown) (Fr.refl _ w))
    | some ad =>
      refine wpList_append_own_at w hgd s x 39 ho base 5 i0 _ 1 1 Try.underlying39 hi0 hz0 hz1 hz2 rfl (by decide) v n _ hs hown ad 0 c [] hx (by simp) (fun j u hu => by simp at hu) (fun u hu => by simp at hu) (by unfold maxLen; omega) (by omega) hbase ?_
      intro v' w' h1 h2 _ _
      exact h v' w' (by simpa using h1) ((Fr.refl _ w).grown h2 (fun k _ hk => hk))

/-- region k opened: what is read, and what a store of its bytes leaves. -/
theorem RefX.opened {w : World} {r N : Nat} {Ss : List Sg} {Bs : List (List UInt8)} (h : RefX w r N Ss Bs) {k : Nat} (hk : k < Ss.length) : ∃ (ob c2 : Nat) (X : Xs), w.cell? ⟨r, 1, none⟩ = some (.slice (some ⟨ob, 0, none⟩) Ss.length c2) ∧ w.cell? ⟨ob, k, none⟩ = some (.slice X.A X.n X.c) ∧ SlB w X.A X.n X.c (atD [] Bs k) ∧ (atD [] Bs k).length ≤ 256 ∧
    (∀ i, w.frozen? ⟨ob, i, none⟩ = false) ∧ N ≤ ob ∧ ob < w.heap.size ∧ r < w.heap.size ∧ ob ≠ r ∧
    ∀ (w2 : World) (V : Xs) (l : List UInt8), Below w.heap.size w w2 → SlB w2 V.A V.n V.c l → l.length ≤ 256 → (∀ b o, 0 < V.n → V.A = some ⟨b, o, none⟩ → w.heap.size ≤ b) → RefX (w2.setCell ⟨ob, k, none⟩ (.slice V.A V.n V.c)) r N Ss (Bs.set k l) := by
  obtain ⟨A1, c1, A2, c2, XS, h1, h2, h3, h4, h5, h6, h7, h8, h9⟩ := h
  obtain ⟨ob, cur, t, rfl, b1, b2, b3, b4, b5⟩ := h9 (by omega)
  obtain ⟨q1, q2, q3, q4⟩ := b5 k hk
  have hob := b1.lt
  have hrl := h1.lt
  refine ⟨ob, c2, atD xs0 XS k, h1.cell 1, by rw [b1.cell k]; exact q1, q2, q3, b1.frozen, b2, hob, hrl, b3, fun w2 V l hb hs hl hV => ?_⟩
  have fs : Fr (fun j => j = ob) w2 (w2.setCell ⟨ob, k, none⟩ (.slice V.A V.n V.c)) := Fr.setCell (S := fun j => j = ob) (Fr.refl _ w2) (p := ⟨ob, k, none⟩) (fun _ => rfl) _
  have hset := (b1.keep hb).set_ k (.slice V.A V.n V.c)
  generalize w2.setCell ⟨ob, k, none⟩ (.slice V.A V.n V.c) = w3 at fs hset ⊢
  refine ⟨A1, c1, _, c2, XS.set k V, (h1.keep hb).fr fs (fun e => b3 e.symm), (h2.keep hb).fr fs (fun b o hp e hj => b4 b o e hj), by simp [h3], by simp [h4], h5, h6, h7, h8, fun hp => ⟨ob, _, t, rfl, hset, b2, b3, b4, fun i hi => ?_⟩⟩
  rw [atD_set xs0 XS k i V (by omega), atD_set [] Bs k i l (by omega)]
  obtain ⟨p1, p2, p3, p4⟩ := b5 i hi
  have hck : k < cur.size := (Array.getElem?_eq_some_iff.1 q1).1
  by_cases hik : i = k
  · subst hik
    rw [if_pos rfl, if_pos rfl]
    refine ⟨by simp [Array.getElem?_setIfInBounds, hck], hs.fr fs (fun b o hp e hj => by have := hV b o hp e; have hj : b = ob := hj; omega), hl, fun b o hp e => by have := hV b o hp e; omega⟩
  · rw [if_neg hik, if_neg hik]
    refine ⟨by rw [Array.getElem?_setIfInBounds, if_neg (fun e => hik e.symm)]; exact p1, (p2.keep hb).fr fs (fun b o hp e hj => (p4 b o hp e).2 hj), p3, p4⟩
set_option maxRecDepth 100000 in
set_option maxHeartbeats 1600000 in
theorem rload_any {w : World} {r N : Nat} {Ss : List Sg} {Bs : List (List UInt8)} (h : RefX w r N Ss Bs) {a n : Int} (ha : i64 a) (hn : i64 n) :
    Calls Try.prog 20 #[.pointer (some ⟨r, 0, none⟩), .int .i64 a, .int .i64 n] w fun e w' => ∃ v, e = .returned (.tuple #[v, .bool (loadR Ss Bs a n).2]) ∧ w'.ownsRow w.heap.size 5 1 v (loadR Ss Bs a n).1.length ((loadR Ss Bs a n).1.map bv) ∧ Below w.heap.size w w' := by
  have HL : Hid (loadR Ss Bs a n = match fdF Ss Bs a n false with
    | none => ([], false)
    | some k => (((atD [] Bs k).drop (a - (atD sg0 Ss k).ba).toNat).take n.toNat, true)) := rfl
  generalize loadR Ss Bs a n = R at HL ⊢
  go_enter Try.func20, Try.ntmps20
  go_wp2_with fail
  refine (findR_any h (ww := false) ha hn).mono ?_
  rintro e w2 ⟨rfl, rfl⟩
  cases hF : fdF Ss Bs a n false with
  | none =>
    have HR : Hid (R = ([], false)) := by unfold Hid; rw [HL.out, hF]
    clear HL hF
    simp only [fdI, frI]
    go_wp2_with fail
    go_ret2
    rw [HR.out]
    exact ⟨_, rfl, World.ownsRow_nil _ _ _ _, Below.refl _ _⟩
  | some k =>
    obtain ⟨hk, f, m, hf, rfl, hroom⟩ := fdF_room hF
    have HR : Hid (R = (((atD [] Bs k).drop f).take m, true)) := by
      unfold Hid
      rw [HL.out, hF]
      simp only [hf, Int.toNat_natCast]
    clear HL hF
    simp only [fdI, frI, hf]
    obtain ⟨ob, c2, X, r1, x0, hs, h256, hfz, hN, hob, hrl, hor, -⟩ := h.opened hk
    have hkL : (k : Int) < (Ss.length : Int) := by omega
    have hXl := hs.2
    have hXc := hs.1.2.1
    have hcut := fun w => run_cut_lh u_bytes size1 w X.A X.n X.c f (f + m) (by omega) (by omega)
    rw [show ((f + m : Nat) : Int) = (f : Int) + (m : Int) by omega, show f + m - f = m by omega] at hcut
    have hsc := hs.cut (lo := f) (hi := f + m) (by omega) (by omega)
    rw [show f + m - f = m by omega] at hsc
    have hb0 := (Below.refl w.heap.size w).alloc (Nat.le_refl _) (.cells #[] 5)
    have hown0 := own_lit w 5 1
    have hs0 := hsc.keep hb0
    have hn63 := hs.len
    generalize atD [] Bs k = l at hs hs0 hsc hroom HR h256 hXl
    go_wp2_with (at_builtin; refine wpList_appB0 _ (by rfl) _ _ (by rfl) w.heap.size _ 0 [] (by rfl) hown0 _ m _ _ hs0 (by rfl) (by omega) hb0.size ?_; intro v' w3 hown3 hf3)
    go_ret2
    rw [HR.out]
    refine ⟨v', rfl, ?_, ?_⟩
    · rw [show (((l.drop f).take m, true) : List UInt8 × Bool).1.length = m by simp; omega]
      rw [Nat.zero_add, List.nil_append] at hown3
      exact hown3
    · exact hb0.trans (hf3.below (B := w.heap.size) (fun j hj h => by have := own_le hown0 j h; omega) hb0.size)
set_option maxRecDepth 100000 in
set_option maxHeartbeats 3200000 in
theorem rstore_any {w : World} {r N : Nat} {Ss : List Sg} {Bs : List (List UInt8)} (h : RefX w r N Ss Bs) {a : Int} (ha : i64 a) {D : Option Addr} {n d : Nat} {b : List UInt8} (hb : SlB w D n d b) :
    Calls Try.prog 21 #[.pointer (some ⟨r, 0, none⟩), .int .i64 a, .slice D n d] w fun e w' => e = .returned (.bool (storeR Ss Bs a b).2) ∧ RefX w' r N Ss (storeR Ss Bs a b).1 ∧ Fr (fun j => N ≤ j) w w' := by
  have hbl := hb.2
  have hn := hb.len
  have HL : Hid (storeR Ss Bs a b = match fdF Ss Bs a n true with
    | none => (Bs, false)
    | some k => (Bs.set k (splice (atD [] Bs k) (a - (atD sg0 Ss k).ba).toNat b), true)) := by unfold Hid storeR; rw [hbl]; rfl
  generalize storeR Ss Bs a b = R at HL ⊢
  have hni : i64 (n : Int) := by unfold i64; omega
  go_enter Try.func21, Try.ntmps21
  go_wp2_with fail
  refine (findR_any h (ww := true) ha hni).mono ?_
  rintro e w2 ⟨rfl, rfl⟩
  cases hF : fdF Ss Bs a n true with
  | none =>
    have HR : Hid (R = (Bs, false)) := by unfold Hid; rw [HL.out, hF]
    clear HL hF
    simp only [fdI, frI]
    go_wp2_with fail
    go_ret
    rw [HR.out]
    exact ⟨rfl, h, Fr.refl _ _⟩
  | some k =>
    obtain ⟨hk, f, m, hf, hnm, hroom⟩ := fdF_room hF
    obtain rfl : n = m := by omega
    clear hnm
    have HR : Hid (R = (Bs.set k (splice (atD [] Bs k) f b), true)) := by
      unfold Hid
      rw [HL.out, hF]
      simp only [hf, Int.toNat_natCast]
    clear HL hF
    simp only [fdI, frI, hf]
    obtain ⟨ob, c2, X, r1, x0, hs, h256, hfz, hN, hob, hrl, hor, hupd⟩ := h.opened hk
    have hkL : (k : Int) < (Ss.length : Int) := by omega
    have hXl := hs.2
    have hXc := hs.1.2.1
    have hn63 := hs.len
    have hcut1 := fun w => run_cut_h u_bytes size1 w X.A X.n X.c f (by omega)
    have hs1 := hs.cut (lo := 0) (hi := f) (by omega) (by omega)
    rw [Nat.sub_zero, Nat.sub_zero, List.drop_zero] at hs1
    have hcut2 := fun w => run_cut_l u_bytes size1 w X.A X.n X.c (f + n) (by omega)
    rw [show ((f + n : Nat) : Int) = (f : Int) + (n : Int) by omega] at hcut2
    have hs2 := hs.cut (lo := f + n) (hi := X.n) (by omega) (Nat.le_refl _)
    rw [show ((atD [] Bs k).drop (f + n)).take (X.n - (f + n)) = (atD [] Bs k).drop (f + n) from List.take_of_length_le (by rw [List.length_drop]; omega)] at hs2
    have hb0 := (Below.refl w.heap.size w).alloc (Nat.le_refl _) (.cells #[] 5)
    have hown0 := own_lit w 5 1
    have hs0 := hs1.keep hb0
    have HUP := Lib.hid hupd
    clear hupd h
    generalize atD [] Bs k = l at hs hs0 hs1 hs2 hroom HR h256 hXl
    go_upto_region 5 with (at_builtin; refine wpList_appB0 _ (by rfl) _ _ (by rfl) w.heap.size _ 0 [] (by rfl) hown0 _ f _ _ hs0 (by rfl) (by omega) hb0.size ?_; intro v3 w3 hown3 hf3)
    have hb3 : Below w.heap.size w w3 := hb0.trans (hf3.below (B := w.heap.size) (fun j hj h => by have := own_le hown0 j h; omega) hb0.size)
    rw [Nat.zero_add, List.nil_append] at hown3
    clear hf3 hown0 hs0 hb0
    go_upto_region 6 with (at_builtin; refine wpList_appB0 w3 (by rfl) _ _ (by rfl) w.heap.size _ f _ (by rfl) hown3 D n d b (hb.keep hb3) (by rfl) (by omega) hb3.size ?_; intro v4 w4 hown4 hf4)
    have hb4 : Below w.heap.size w w4 := hb3.trans (hf4.below (B := w.heap.size) (fun j hj h => by have := own_le hown3 j h; omega) hb3.size)
    clear hf4 hown3
    obtain ⟨hc4, -⟩ := bcell hb4
    have r14 := (hc4 _ _ hrl).trans r1
    have x04 := (hc4 _ _ hob).trans x0
    have hz4 := hb4.size
    go_upto_region 7 with (at_builtin; refine wpList_appB0 w4 (by rfl) _ _ (by rfl) w.heap.size _ (f + n) _ (by rfl) hown4 _ (X.n - (f + n)) _ _ (hs2.keep hb4) (by rfl) (by omega) hb4.size ?_; intro v5 w5 hown5 hf5)
    have hb5 : Below w.heap.size w w5 := hb4.trans (hf5.below (B := w.heap.size) (fun j hj h => by have := own_le hown4 j h; omega) hb4.size)
    clear hf5 hown4 r14 x04 hc4
    obtain ⟨hc5, hfr5⟩ := bcell hb5
    have r15 := (hc5 _ _ hrl).trans r1
    have x05 := (hc5 _ _ hob).trans x0
    have hz5 := hb5.size
    have fz5 : ∀ i, w5.frozen? ⟨ob, i, none⟩ = false := fun i => (World.frozen?_of_block (a := ⟨ob, i, none⟩) (hb5.block ob hob)).trans (hfz i)
    have hob5 : ob < w5.heap.size := by omega
    obtain ⟨V, vc, rfl, hsV, hVb⟩ := SlB.of_own hown5
    have hlen5 : (f + n) + (X.n - (f + n)) = X.n := by omega
    rw [hlen5] at hsV ⊢
    clear r1 x0 hc5
    go_wp2_with fail
    go_ret
    rw [HR.out]
    have hspl : l.take f ++ b ++ l.drop (f + n) = splice l f b := by unfold splice; rw [List.append_assoc, hbl]
    rw [hspl] at hsV
    refine ⟨rfl, HUP.out w5 ⟨V, X.n, vc⟩ _ hb5 hsV (by rw [splice_len (by omega)]; exact h256) (fun b o _ e => hVb b o e), ?_⟩
    exact Fr.setCell (S := fun j => N ≤ j) (Fr.of_below hb5 _) (p := ⟨ob, k, none⟩) (fun _ => hN) _
end Go.Proofs.Ytpgglefimdllbaa
