/- The builtins copy and clear on a block known whole; what a store changes of a memory's state. -/
import Derived.Test.YtpgglefimdllbaaMemOf
import Derived.Laws.CopyOwn
import Derived.Laws.CopyRow
import Derived.Lib.SliceRun
namespace Go.Proofs.Ytpgglefimdllbaa
open Go.RowKit
theorem fr_setRow (w : World) (g : Nat) (cs : Array Value) : Fr (fun k => k = g) w (w.setRow g cs) :=
  ⟨rfl, rfl, rfl, by simp [World.setRow], fun k _ hk => by simp [World.setRow, Array.getElem?_modify, show ¬ g = k from fun e => hk e.symm]⟩
theorem wp_copy_row {P : Program} {o : Oper} {a : Act} {w : World} {K : Act → World → Prop} {Q : Exit → Act → World → Prop} (d s : Operand) (dT sT : TypeId)
    (ho : o.op = .call { callee := .builtin .copy, args := #[d, s], argTypes := #[dT, sT] }) (elem : TypeId) (hu : P.underlying dT = some (.slice elem)) (hsz : (P.info? elem).map (·.size) = some 1)
    (g off dLen dCap sLen sCap : Nat) (sp : Option Addr) (hd : a.eval d = .slice (some ⟨g, off, none⟩) dLen dCap) (hs : a.eval s = .slice sp sLen sCap)
    (cur : List Value) (t : TypeId) (hg : Blk w g t cur.toArray) (cs : List Value) (hn : cs.length = Nat.min sLen dLen)
    (hsrc : 0 < cs.length → ∃ ad, sp = some ad ∧ ∀ j v, cs[j]? = some v → w.cell? (ad.add j) = some v) (hfit : off + cs.length ≤ cur.length) (h1 : ∀ v ∈ cs, v.oneCell' = true)
    (h : ∀ w', Blk w' g t (splice cur off cs).toArray → Fr (fun k => k = g) w w' → K (a.put o.dst (goInt cs.length)) w') : o.wp P a w K Q := by
  by_cases h0 : cs.length = 0
  · obtain rfl : cs = [] := List.eq_nil_of_length_eq_zero h0
    have hrun := run_copy_none (P := P) w dT sT o.type elem (some ⟨g, off, none⟩) sp dLen dCap sLen sCap hu hsz (by simpa using hn.symm)
    unfold Oper.wp
    simp [execOp, ho, resolve, invoke, builtin, hd, hs, hrun, Result.andThen]
    exact h w (by simpa [splice] using hg) (Fr.refl _ w)
  · obtain ⟨ad, rfl, hsrc'⟩ := hsrc (by omega)
    have hrun := run_copy_row (P := P) w dT sT o.type elem g off dLen dCap ad sLen sCap cur.toArray t cs hu hsz hg hn hsrc' (by simpa using hfit) h1
    unfold Oper.wp
    simp [execOp, ho, resolve, invoke, builtin, hd, hs, hrun, Result.andThen]
    exact h _ (show _ = _ by simpa [splice] using setRow_heap w g _ (cur.take off ++ (cs ++ cur.drop (off + cs.length))).toArray t (0, 0) hg) (fr_setRow w g _)
theorem run_clear_row {P : Program} (w : World) (t e ty : TypeId) (z : Value) (ht : P.underlying t = some (.slice e)) (hv : ∀ w, (zeroValue e).run P w = .ok z w) (hz : z.cells = #[z]) (h1 : z.oneCell' = true) (b n c : Nat) (hn : 0 < n)
    (cur : Array Value) (te : TypeId) (hb : Blk w b te cur) (hsz : cur.size = n) :
    (Builtin.clear_ #[t] ty #[.slice (some ⟨b, 0, none⟩) n c]).run P w = .ok (.tuple #[]) (w.setRow b (List.replicate n z).toArray) := by
  have hzc : (Builtin.zeroCells z.cells n).toList = List.replicate n z := by
    rw [hz]
    simp [Builtin.zeroCells]
    apply List.ext_getElem
    · simp
    · intro i h1 h2
      simp [Nat.mod_one]
  have hst := run_storeCells_at P b 0 te (List.replicate n z) 0 cur w hb (by simp [hsz]) (by intro v hv'; rw [List.eq_of_mem_replicate hv']; exact h1)
  simp only [Nat.add_zero, Nat.zero_add, List.take_zero, List.nil_append, List.length_replicate] at hst
  rw [List.drop_of_length_le (by simp [hsz]), List.append_nil] at hst
  obtain ⟨m, rfl⟩ : ∃ m, n = m + 1 := ⟨n - 1, by omega⟩
  simp [Builtin.clear_, run_underlying ht, hv, hzc, hst]
theorem run_clear_none {P : Program} (w : World) (t e ty : TypeId) (ht : P.underlying t = some (.slice e)) (A : Option Addr) (c : Nat) :
    (Builtin.clear_ #[t] ty #[.slice A 0 c]).run P w = .ok (.tuple #[]) w := by
  cases A <;> simp [Builtin.clear_, run_underlying ht]
theorem atD_set {α : Type} (d : α) (l : List α) (k i : Nat) (x : α) (hk : k < l.length) : atD d (l.set k x) i = if i = k then x else atD d l i := by
  unfold atD
  rw [List.getD_eq_getElem?_getD, List.getD_eq_getElem?_getD, List.getElem?_set]
  by_cases h : k = i
  · subst h; simp [hk]
  · rw [if_neg h, if_neg (fun e => h e.symm)]
/-- one region's bytes are others: the state behind it. -/
theorem MemX.upd {w w' : World} {g B : Nat} {A : Option Addr} {c : Nat} {PQ : List (Nat × Nat)} {Ss : List Sg} {Bs : List (List UInt8)} (h : MemX w g B A c PQ Ss Bs) {k : Nat} (hk : k < Ss.length) {l : List UInt8} (hl : l.length = (atD [] Bs k).length)
    (hf : Fr (fun j => j = (atD (0, 0) PQ k).2) w w') (hb : Blk w' (atD (0, 0) PQ k).2 5 (l.map bv).toArray) : MemX w' g B A c PQ Ss (Bs.set k l) := by
  obtain ⟨h1, h2, h3, h4, h5, h6, h7, h8, h9⟩ := h
  obtain ⟨q1, q2, q3, q4⟩ := h9 k hk
  refine ⟨h1.fr hf (fun e => q2 e.symm), SlG.fr h2 hf (fun b o _ e hb => q3 b o e hb.symm), by rw [List.length_set]; exact h3, h4, Nat.le_trans h5 hf.size, h6, h7, fun i hi => ?_, h9⟩
  obtain ⟨r1, r2, r3⟩ := h8 i hi
  rw [atD_set [] Bs k i l (by omega)]
  by_cases hik : i = k
  · subst hik
    rw [if_pos rfl]
    refine ⟨?_, hb, by omega⟩
    rw [hl]
    exact r1.fr hf (fun e => (q4 i hi).1 e.symm)
  · rw [if_neg hik]
    exact ⟨r1.fr hf (fun e => (q4 i hi).1 e.symm), r2.fr hf (fun e => (q4 i hi).2 (fun e' => hik e'.symm) e.symm), r3⟩
end Go.Proofs.Ytpgglefimdllbaa
