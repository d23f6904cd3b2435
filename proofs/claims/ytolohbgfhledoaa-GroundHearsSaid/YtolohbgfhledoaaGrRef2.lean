/- The walks of package ground's reference: a station made. -/
import Derived.Test.YtolohbgfhledoaaGrRef
namespace Go.Proofs.Ytolohbgfhledoaa
open Go.RowKit
/-- append(out, l...) of frames: l may be empty; out is owned -/
theorem wpList_appF0 {ops : Array Oper} {rest : List Oper} {o : Oper} {a : Act} {Q : Exit → Act → World → Prop} (w : World) (hgd : o.guard = none) (s x : Operand)
    (ho : o.op = .call { callee := .builtin .append, args := #[s, x], argTypes := #[47, 47] })
    (base : Nat) (v : Value) (n : Nat) (xs : List Value) (hs : a.eval s = v) (hown : w.ownsRow base 78 4 v n xs)
    (A : Option Addr) (m c : Nat) (l2 : List Fm) (hsrc : SlG w A m c 4 fmC l2) (hx : a.eval x = .slice A m c) (hn : n + m ≤ 1000000) (hbase : base ≤ w.heap.size)
    (h : ∀ v' w', w'.ownsRow base 78 4 v' (n + m) (xs ++ l2.flatMap fmC) → Fr (fun k => v.ownBlock = some k) w w' → wpList Try.prog ops Q rest (a.put o.dst v') w') :
    wpList Try.prog ops Q (o :: rest) a w := by
  obtain ⟨i0, hi0, hz0, hz1, hz2⟩ := info_parts fm_info
  by_cases hm : 0 < m
  · obtain ⟨b, of, rfl, hb, hc⟩ := hsrc.1.at_ hm
    have hl2 := hsrc.2.1
    refine wpList_append_own_at w hgd s x 47 ho base 78 i0 _ 4 32 Try.underlying47 hi0 hz0 hz1 hz2 rfl (by decide) v n _ hs hown ⟨b, of, none⟩ m c (l2.flatMap fmC) hx (by rw [fmC_len]; omega) (fun j u hu => by rw [add_none]; exact hc j u hu) (fm_cell l2) (by unfold maxLen; omega) (by omega) hbase ?_
    intro v' w' h1 h2 _ h4
    exact h v' w' h1 ((Fr.refl _ w).grown h2 (fun k _ hk => hk))
  · obtain rfl : m = 0 := by omega
    have hl2 : l2 = [] := List.eq_nil_of_length_eq_zero hsrc.2.1
    subst hl2
    cases A with
    | none =>
      have hc := hsrc.1.2.2.2.1 rfl
      subst hc
      exact wpList_append_own_none hgd s x 47 ho base 78 i0 4 Try.underlying47 hi0 v n _ hs hown hx (h v w (by simpa using hown) (Fr.refl _ w))
    | some ad =>
      refine wpList_append_own_at w hgd s x 47 ho base 78 i0 _ 4 32 Try.underlying47 hi0 hz0 hz1 hz2 rfl (by decide) v n _ hs hown ad 0 c [] hx (by simp) (fun j u hu => by simp at hu) (fun u hu => by simp at hu) (by unfold maxLen; omega) (by omega) hbase ?_
      intro v' w' h1 h2 _ _
      exact h v' w' (by simpa using h1) ((Fr.refl _ w).grown h2 (fun k _ hk => hk))
/-- the reference's station at block r; no block of its is in T -/
def RSt (w : World) (r : Nat) (T : Nat → Prop) (F0 F : List Fm) (nx : Int) : Prop := ∃ A1 c1 A2 c2, Blk w r 58 #[.slice A1 F0.length c1, .slice A2 F.length c2, .int .i64 nx] ∧ SlG w A1 F0.length c1 4 fmC F0 ∧ SlG w A2 F.length c2 4 fmC F ∧ ¬ T r ∧
  (∀ b o, 0 < F0.length → A1 = some ⟨b, o, none⟩ → b ≠ r ∧ ¬ T b) ∧ (∀ b o, 0 < F.length → A2 = some ⟨b, o, none⟩ → b ≠ r ∧ ¬ T b) ∧ F0.length ≤ 64 ∧ F.length ≤ 64
theorem slA_blk {A : Option Addr} {c s b o : Nat} (h : slA A 0 c s = some ⟨b, o, none⟩) : ∃ o', A = some ⟨b, o', none⟩ := by
  unfold slA at h
  split at h
  · exact ⟨o, h⟩
  · cases A with
    | none => simp at h
    | some ad =>
      obtain ⟨b', o', sp⟩ := ad
      rw [Nat.zero_mul] at h
      have h' : some ((⟨b', o', sp⟩ : Addr).add 0) = some ⟨b, o, none⟩ := h
      cases sp with
      | none =>
        rw [add_none] at h'
        cases h'
        exact ⟨_, rfl⟩
      | some x => simp [Addr.add] at h'
set_option maxRecDepth 100000 in
theorem newR_any {w : World} {A : Option Addr} {n c : Nat} {F : List Fm} (h : SlG w A n c 4 fmC F) (hn : n ≤ 100000) (T : Nat → Prop) (hT : ∀ k, T k → k < w.heap.size) (hA : ∀ b o, 0 < n → A = some ⟨b, o, none⟩ → ¬ T b) :
    Calls Try.prog 17 #[.slice A n c] w fun e w' => e = .returned (.pointer (some ⟨w.heap.size, 0, none⟩)) ∧ RSt w' w.heap.size T (F.take 64) (F.take 64) 0 ∧ Below w.heap.size w w' := by
  have hln := h.2.1
  have hnc := h.1.2.1
  have hTn : ¬ T w.heap.size := fun h => by have := hT _ h; omega
  have hlt : ∀ b o, 0 < n → A = some ⟨b, o, none⟩ → b < w.heap.size := fun b o hp e => by
    obtain ⟨b', o', e', hb', _⟩ := h.1.at_ (by omega)
    rw [e'] at e
    cases e
    exact hb'
  by_cases h64 : n ≤ 64
  · have hF : F.take 64 = F := List.take_of_length_le (by omega)
    rw [hF]
    clear hF
    have hbk := Blk.new w 58 #[.slice A n c, .slice A n c, .int .i64 0]
    have hb := (Below.refl w.heap.size w).alloc (Nat.le_refl _) (.cells #[.slice A n c, .slice A n c, .int .i64 0] 58)
    have H := Lib.hid hlt
    clear hlt
    go_enter Try.func17, Try.ntmps17
    go_wp2_with fail
    go_ret
    have hq : ∀ b o, 0 < F.length → A = some ⟨b, o, none⟩ → b ≠ w.heap.size ∧ ¬ T b := fun b o hp e => ⟨by have := H.out b o (by omega) e; omega, hA b o (by omega) e⟩
    exact ⟨rfl, ⟨A, c, A, c, by rw [hln]; exact hbk, by rw [hln]; exact h.keep hb, by rw [hln]; exact h.keep hb, hTn, hq, hq, by omega, by omega⟩, hb⟩
  · have hl6 : (F.take 64).length = 64 := by rw [List.length_take]; omega
    have hcut := h.cut (lo := 0) (hi := 64) (by omega) (by omega)
    simp only [Nat.sub_zero, List.drop_zero] at hcut
    have hsl2 : ∀ w, (Instr.sliceAt 47 (.slice A n c) none (some (.int .i64 64)) none).run Try.prog w = .ok (.slice (slA A 0 c 4) 64 c) w := fun w => run_cut_h u_frames size4 w A n c 64 (by omega)
    generalize F.take 64 = G at hcut hl6 ⊢
    have hq : ∀ b o, 0 < G.length → slA A 0 c 4 = some ⟨b, o, none⟩ → b ≠ w.heap.size ∧ ¬ T b := fun b o hp e => by
      obtain ⟨o', e'⟩ := slA_blk e
      exact ⟨by have := hlt b o' (by omega) e'; omega, hA b o' (by omega) e'⟩
    have hbk := Blk.new w 58 #[.slice (slA A 0 c 4) 64 c, .slice (slA A 0 c 4) 64 c, .int .i64 0]
    have hb := (Below.refl w.heap.size w).alloc (Nat.le_refl _) (.cells #[.slice (slA A 0 c 4) 64 c, .slice (slA A 0 c 4) 64 c, .int .i64 0] 58)
    have H := Lib.hid hq
    clear hlt hq
    go_enter Try.func17, Try.ntmps17
    go_wp2_with fail
    go_ret
    exact ⟨rfl, ⟨slA A 0 c 4, c, slA A 0 c 4, c, by rw [hl6]; exact hbk, by rw [hl6]; exact hcut.keep hb, by rw [hl6]; exact hcut.keep hb, hTn, H.out, H.out, by omega, by omega⟩, hb⟩
end Go.Proofs.Ytolohbgfhledoaa
