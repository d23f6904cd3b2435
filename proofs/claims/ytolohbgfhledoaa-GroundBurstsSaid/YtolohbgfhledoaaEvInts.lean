/- Some numbers' bytes: the plain law, and an append of bytes. -/
import Derived.Test.YtolohbgfhledoaaVarWalks
import Derived.Laws.AppendOwnNone
namespace Go.Proofs.Ytolohbgfhledoaa
open Go.RowKit
def ints (l : List Int) : List UInt8 := l.flatMap vint
theorem ints_snoc (l : List Int) (x : Int) : ints (l ++ [x]) = ints l ++ vint x := by simp [ints]
theorem take_snocI (l : List Int) (k : Nat) (h : k < l.length) : l.take (k + 1) = l.take k ++ [at0 l k] := by
  rw [List.take_succ_eq_append_getElem h, at0_lt h]
theorem ints_len (l : List Int) : (ints l).length ≤ 11 * l.length := by
  induction l with
  | nil => simp [ints]
  | cons x l ih =>
    have := vint_len x
    simp only [ints, List.flatMap_cons, List.length_append, List.length_cons] at ih ⊢
    omega
/-- append(out, b...): b is not empty; out is owned. -/
theorem wpList_appB {ops : Array Oper} {rest : List Oper} {o : Oper} {a : Act} {Q : Exit → Act → World → Prop} (w : World) (hgd : o.guard = none) (s x : Operand)
    (ho : o.op = .call { callee := .builtin .append, args := #[s, x], argTypes := #[24, 24] })
    (base : Nat) (v : Value) (n : Nat) (l1 : List UInt8) (hs : a.eval s = v) (hown : w.ownsRow base 5 1 v n (l1.map bv))
    (A : Option Addr) (m c : Nat) (l2 : List UInt8) (hsrc : SlB w A m c l2) (hm : 0 < m) (hx : a.eval x = .slice A m c) (hn : n + m ≤ 1000000) (hbase : base ≤ w.heap.size)
    (h : ∀ v' w', w'.ownsRow base 5 1 v' (n + m) ((l1 ++ l2).map bv) → Fr (fun k => v.ownBlock = some k) w w' → (v'.ownBlock = v.ownBlock ∨ v'.ownBlock = some w.heap.size) → wpList Try.prog ops Q rest (a.put o.dst v') w') :
    wpList Try.prog ops Q (o :: rest) a w := by
  obtain ⟨i0, hi0, hz0, hz1, hz2⟩ := info_parts byte_info
  obtain ⟨b, of, rfl, hb, hc⟩ := hsrc.1.at_ hm
  have hl2 := hsrc.2
  refine wpList_append_own_at w hgd s x 24 ho base 5 i0 _ 1 1 Try.underlying24 hi0 hz0 hz1 hz2 rfl (by decide) v n _ hs hown ⟨b, of, none⟩ m c (l2.map bv) hx (by simp; omega) (fun j u hu => by rw [add_none]; exact hc j u hu) (bv_cell l2) (by unfold maxLen; omega) (by omega) hbase ?_
  intro v' w' h1 h2 _ h4
  exact h v' w' (by rw [List.map_append]; exact h1) ((Fr.refl _ w).grown h2 (fun k _ hk => hk)) h4
/-- append(out, b...): b may be empty; out is owned. -/
theorem wpList_appB0 {ops : Array Oper} {rest : List Oper} {o : Oper} {a : Act} {Q : Exit → Act → World → Prop} (w : World) (hgd : o.guard = none) (s x : Operand)
    (ho : o.op = .call { callee := .builtin .append, args := #[s, x], argTypes := #[24, 24] })
    (base : Nat) (v : Value) (n : Nat) (l1 : List UInt8) (hs : a.eval s = v) (hown : w.ownsRow base 5 1 v n (l1.map bv))
    (A : Option Addr) (m c : Nat) (l2 : List UInt8) (hsrc : SlB w A m c l2) (hx : a.eval x = .slice A m c) (hn : n + m ≤ 1000000) (hbase : base ≤ w.heap.size)
    (h : ∀ v' w', w'.ownsRow base 5 1 v' (n + m) ((l1 ++ l2).map bv) → Fr (fun k => v.ownBlock = some k) w w' → wpList Try.prog ops Q rest (a.put o.dst v') w') :
    wpList Try.prog ops Q (o :: rest) a w := by
  by_cases hm : 0 < m
  · exact wpList_appB w hgd s x ho base v n l1 hs hown A m c l2 hsrc hm hx hn hbase fun v' w' h1 h2 _ => h v' w' h1 h2
  · obtain rfl : m = 0 := by omega
    have hl2 : l2 = [] := List.eq_nil_of_length_eq_zero hsrc.2
    subst hl2
    obtain ⟨i0, hi0, hz0, hz1, hz2⟩ := info_parts byte_info
    cases A with
    | none =>
      have hc := hsrc.1.2.2.2.1 rfl
      subst hc
      exact wpList_append_own_none hgd s x 24 ho base 5 i0 1 Try.underlying24 hi0 v n _ hs hown hx (h v w (by simpa using hown) (Fr.refl _ w))
    | some ad =>
      refine wpList_append_own_at w hgd s x 24 ho base 5 i0 _ 1 1 Try.underlying24 hi0 hz0 hz1 hz2 rfl (by decide) v n _ hs hown ad 0 c [] hx (by simp) (fun j u hu => by simp at hu) (fun u hu => by simp at hu) (by unfold maxLen; omega) (by omega) hbase ?_
      intro v' w' h1 h2 _ _
      exact h v' w' (by simpa using h1) ((Fr.refl _ w).grown h2 (fun k _ hk => hk))
end Go.Proofs.Ytolohbgfhledoaa
