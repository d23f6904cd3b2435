/- Words on memory that all texts of this seat share: a frame with named blocks (Fr), a block known whole (Blk), a slice that is read (Sl), an owned slice (kit: ownsRow) and its append. -/
import Derived.WalkKit
import Derived.Deep.QuietTactic
import Derived.BigQuiet
import Derived.Lib.Hide
import Derived.Maps.AppendAt
import Derived.Deep.AppendLies
import Derived.Deep.Draws
import Derived.Lib.BufferRead
import Derived.Laws.IdiomStrings
namespace Go.Proofs.Ytiglabknaldinaa
open Go.RowKit

/- a store of a value of which it is known that it is one cell -/
attribute [go_sem] Go.run_store

theorem add_none (b o j : Nat) : (⟨b, o, none⟩ : Addr).add j = ⟨b, o + j, none⟩ := by unfold Addr.add; split <;> simp_all
/-! ### Fr S w w': all blocks that were, but those in S, are as they were. -/
structure Fr (S : Nat → Prop) (w w' : World) : Prop where
  os : w'.os = w.os
  tape : w'.tape = w.tape
  output : w'.output = w.output
  size : w.heap.size ≤ w'.heap.size
  block : ∀ k, k < w.heap.size → ¬ S k → w'.heap[k]? = w.heap[k]?
section
variable {S S' : Nat → Prop} {w w' w'' : World}
theorem Fr.refl (S : Nat → Prop) (w : World) : Fr S w w := ⟨rfl, rfl, rfl, Nat.le_refl _, fun _ _ _ => rfl⟩
theorem Fr.mono (h : Fr S w w') (hs : ∀ k, k < w.heap.size → S k → S' k) : Fr S' w w' :=
  ⟨h.os, h.tape, h.output, h.size, fun k hk hn => h.block k hk fun hS => hn (hs k hk hS)⟩
theorem Fr.trans' (h : Fr S w w') (k : Fr S' w' w'') (hs : ∀ k, k < w.heap.size → S' k → S k) : Fr S w w'' :=
  ⟨k.os.trans h.os, k.tape.trans h.tape, k.output.trans h.output, Nat.le_trans h.size k.size, fun i hi hn => (k.block i (Nat.lt_of_lt_of_le hi h.size) fun hS => hn (hs i hi hS)).trans (h.block i hi hn)⟩
theorem Fr.trans (h : Fr S w w') (k : Fr S w' w'') : Fr S w w'' := h.trans' k fun _ _ h => h
theorem Fr.of_below (h : Below w.heap.size w w') (S : Nat → Prop) : Fr S w w' := ⟨h.os, h.tape, h.output, h.size, fun k hk _ => h.block k hk⟩
theorem Fr.below {B : Nat} (h : Fr S w w') (hs : ∀ k, k < B → ¬ S k) (hB : B ≤ w.heap.size) : Below B w w' :=
  ⟨h.os, h.tape, h.output, h.size, fun k hk => h.block k (by omega) (hs k hk)⟩
theorem Fr.drew (h : Fr S w w') : Fr S w w'.drew := ⟨h.os, h.tape, h.output, h.size, h.block⟩
theorem Fr.drewN (h : Fr S w w') (n : Nat) : Fr S w (w'.drewN n) := ⟨h.os, h.tape, h.output, h.size, h.block⟩
theorem Fr.alloc (h : Fr S w w') (o : Obj) : Fr S w (w'.alloc o) :=
  h.trans ⟨rfl, rfl, rfl, by simp, fun k hk _ => Below.heap_alloc _ _ _ hk⟩
theorem Fr.setCell (h : Fr S w w') {p : Addr} (hp : p.block < w.heap.size → S p.block) (u : Value) : Fr S w (w'.setCell p u) :=
  ⟨h.os, h.tape, h.output, by simpa using h.size, fun k hk hn => (Below.heap_setCell _ _ _ _ (fun e => by subst e; exact hn (hp hk))).trans (h.block k hk hn)⟩
theorem Fr.grown {row : Option Nat} (h : Fr S w w') (hg : w'.grownBy w'' row) (hr : ∀ k, k < w.heap.size → row = some k → S k) : Fr S w w'' :=
  ⟨hg.os.trans h.os, hg.tape.trans h.tape, hg.output.trans h.output, Nat.le_trans h.size hg.size,
    fun k hk hn => (hg.block k (Nat.lt_of_lt_of_le hk h.size) (fun e => hn (hr k hk e.symm))).trans (h.block k hk hn)⟩
theorem Fr.cell (h : Fr S w w') {p : Addr} (hp : p.block < w.heap.size) (hn : ¬ S p.block) : w'.cell? p = w.cell? p := World.cell?_of_block (w := w) (h.block p.block hp hn)
end
theorem bcell {W w1 : World} (hb : Below W.heap.size W w1) : (∀ b o, b < W.heap.size → w1.cell? ⟨b, o, none⟩ = W.cell? ⟨b, o, none⟩) ∧ (∀ b o, b < W.heap.size → w1.frozen? ⟨b, o, none⟩ = W.frozen? ⟨b, o, none⟩) :=
  ⟨fun b o h => hb.cell (p := ⟨b, o, none⟩) h, fun b o h => hb.frozen (p := ⟨b, o, none⟩) h⟩
theorem below_drewN {B : Nat} {a w : World} (h : Below B a w) (n : Nat) : Below B a (w.drewN n) := ⟨h.os, h.tape, h.output, h.size, h.block⟩
theorem below_refl_drewN (B : Nat) (w : World) (n : Nat) : Below B w (w.drewN n) := ⟨rfl, rfl, rfl, Nat.le_refl _, fun _ _ => rfl⟩

/-! ### A block that is known whole -/
def Blk (w : World) (g : Nat) (t : TypeId) (cs : Array Value) : Prop := w.heap[g]? = some (.cells cs t (0, 0))
section
variable {w w' : World} {g : Nat} {t : TypeId} {cs : Array Value}
theorem Blk.lt (h : Blk w g t cs) : g < w.heap.size := by
  rcases Nat.lt_or_ge g w.heap.size with hlt | hge
  · exact hlt
  · unfold Blk at h; rw [Array.getElem?_eq_none hge] at h; cases h
theorem Blk.cell (h : Blk w g t cs) (i : Nat) : w.cell? ⟨g, i, none⟩ = cs[i]? := cell_of_row w g i cs t (0, 0) h
theorem Blk.frozen (h : Blk w g t cs) (i : Nat) : w.frozen? ⟨g, i, none⟩ = false := by
  unfold Blk at h
  simp [World.frozen?, h]
theorem Blk.new (w : World) (t : TypeId) (cs : Array Value) : Blk (w.alloc (.cells cs t)) w.heap.size t cs := heap_alloc_new w _
theorem Blk.drew (h : Blk w g t cs) : Blk w.drew g t cs := h
theorem Blk.drewN (h : Blk w g t cs) (n : Nat) : Blk (w.drewN n) g t cs := h
theorem Blk.alloc (h : Blk w g t cs) (o : Obj) : Blk (w.alloc o) g t cs := (Below.heap_alloc w o g h.lt).trans h
theorem Blk.set_ (h : Blk w g t cs) (i : Nat) (u : Value) : Blk (w.setCell ⟨g, i, none⟩ u) g t (cs.setIfInBounds i u) := by
  unfold Blk at h ⊢
  simp [World.setCell, Array.getElem?_modify, h]
theorem Blk.far (h : Blk w g t cs) {p : Addr} (hp : g ≠ p.block) (u : Value) : Blk (w.setCell p u) g t cs := (Below.heap_setCell w p u g hp).trans h
theorem Blk.below {B : Nat} (h : Blk w g t cs) (hb : Below B w w') (hg : g < B) : Blk w' g t cs := (hb.block g hg).trans h
theorem Blk.keep (h : Blk w g t cs) (hb : Below w.heap.size w w') : Blk w' g t cs := h.below hb h.lt
theorem Blk.fr {S : Nat → Prop} (h : Blk w g t cs) (hb : Fr S w w') (hg : ¬ S g) : Blk w' g t cs := (hb.block g h.lt hg).trans h
theorem Blk.grown {row : Option Nat} (h : Blk w g t cs) (hb : w.grownBy w' row) (hg : some g ≠ row) : Blk w' g t cs := (hb.block g h.lt hg).trans h
end

/-! ### A slice that is read: 'Sl w A n c size xs': the value '.slice A n c' has the cells xs (n * size of them). -/
def Sl (w : World) (A : Option Addr) (n c size : Nat) (xs : List Value) : Prop :=
  xs.length = n * size ∧ n ≤ c ∧ c ≤ maxLen ∧ (A = none → c = 0) ∧
  (0 < n → ∃ b o, A = some ⟨b, o, none⟩ ∧ b < w.heap.size ∧ ∀ j u, xs[j]? = some u → w.cell? ⟨b, o + j, none⟩ = some u)
section
variable {w w' : World} {A : Option Addr} {n c size : Nat} {xs : List Value}
theorem Sl.nil (w : World) (size : Nat) : Sl w none 0 0 size [] := ⟨by simp, Nat.le_refl _, by simp [maxLen], fun _ => rfl, fun h => absurd h (by omega)⟩
theorem Sl.keep' (h : Sl w A n c size xs) (hs : w.heap.size ≤ w'.heap.size) (hk : ∀ b o, 0 < n → A = some ⟨b, o, none⟩ → b < w.heap.size → ∀ i, w'.cell? ⟨b, i, none⟩ = w.cell? ⟨b, i, none⟩) : Sl w' A n c size xs := by
  obtain ⟨h1, h2, h3, h4, h5⟩ := h
  refine ⟨h1, h2, h3, h4, fun hn => ?_⟩
  obtain ⟨b, o, e, hb, hc⟩ := h5 hn
  exact ⟨b, o, e, by omega, fun j u hu => (hk b o hn e hb _).trans (hc j u hu)⟩
theorem Sl.keep (h : Sl w A n c size xs) (hb : Below w.heap.size w w') : Sl w' A n c size xs :=
  h.keep' hb.size fun _ _ _ _ hlt i => hb.cell (p := ⟨_, i, none⟩) hlt
theorem Sl.fr {S : Nat → Prop} (h : Sl w A n c size xs) (hb : Fr S w w') (hS : ∀ b o, 0 < n → A = some ⟨b, o, none⟩ → ¬ S b) : Sl w' A n c size xs :=
  h.keep' hb.size fun b o hn e hlt i => hb.cell (p := ⟨b, i, none⟩) hlt (hS b o hn e)
theorem Sl.at_ (h : Sl w A n c size xs) (hn : 0 < n) : ∃ b o, A = some ⟨b, o, none⟩ ∧ b < w.heap.size ∧ ∀ j u, xs[j]? = some u → w.cell? ⟨b, o + j, none⟩ = some u := h.2.2.2.2 hn
theorem Sl.len_le (h : Sl w A n c size xs) : n ≤ 9223372036854775807 := by
  have h2 := h.2.1; have h3 := h.2.2.1; simp only [maxLen] at h3; omega
theorem Sl.of_own {base : Nat} {e : TypeId} {v : Value} (h : w.ownsRow base e size v n xs) : ∃ A c, v = .slice A n c ∧ Sl w A n c size xs ∧ ∀ b o, A = some ⟨b, o, none⟩ → base ≤ b := by
  obtain ⟨hl, h⟩ := h
  rcases h with ⟨rfl, rfl⟩ | ⟨g, cap, cur, rfl, hb, hh, hn, hc, hs, ht⟩
  · have : xs = [] := List.eq_nil_of_length_eq_zero (by simpa using hl)
    subst this
    exact ⟨none, 0, rfl, Sl.nil w size, fun b o h => by cases h⟩
  · refine ⟨some ⟨g, 0, none⟩, cap, rfl, ⟨hl, hn, hc, (fun h => by cases h), fun _ => ⟨g, 0, rfl, (Array.getElem?_eq_some_iff.1 hh).1, fun j u hu => ?_⟩⟩, fun b o h => by cases h; exact hb⟩
    rw [Nat.zero_add, cell_of_row w g j cur e (0, 0) hh]
    rw [← ht, List.getElem?_take] at hu
    split at hu
    · simpa using hu
    · cases hu
end
theorem own_fr {S : Nat → Prop} {w w' : World} {base : Nat} {e : TypeId} {size n : Nat} {v : Value} {xs : List Value} (h : w.ownsRow base e size v n xs) (hf : Fr S w w') (hS : ∀ k, base ≤ k → v.ownBlock = some k → ¬ S k) : w'.ownsRow base e size v n xs := by
  refine ⟨h.1, ?_⟩
  rcases h.2 with hn | ⟨g, cap, cur, rfl, hb, hgg, rest⟩
  · exact .inl hn
  · refine .inr ⟨g, cap, cur, rfl, hb, ?_, rest⟩
    rw [hf.block g (Array.getElem?_eq_some_iff.1 hgg).1 (hS g hb rfl)]
    exact hgg
theorem own_below {w w' : World} {base : Nat} {e : TypeId} {size n : Nat} {v : Value} {xs : List Value} (h : w.ownsRow base e size v n xs) (hf : Below w.heap.size w w') : w'.ownsRow base e size v n xs :=
  own_fr (S := fun _ => False) h (Fr.of_below hf _) (fun _ _ _ h => h)
theorem own_mono {w : World} {base base' : Nat} {e : TypeId} {size n : Nat} {v : Value} {xs : List Value} (h : w.ownsRow base e size v n xs) (hb : base' ≤ base) : w.ownsRow base' e size v n xs := by
  refine ⟨h.1, ?_⟩
  rcases h.2 with hn | ⟨g, cap, cur, rfl, hbg, rest⟩
  · exact .inl hn
  · exact .inr ⟨g, cap, cur, rfl, by omega, rest⟩
theorem own_ne {w : World} {base : Nat} {e : TypeId} {size n : Nat} {v : Value} {xs : List Value} (h : w.ownsRow base e size v n xs) {k : Nat} (hk : k < base) : some k ≠ v.ownBlock :=
  fun e => by have := (h.lt k e.symm).1; omega
/-- l[k], or 0; simp does not look into it. -/
def at0 (l : List Int) (k : Nat) : Int := l.getD k 0
theorem at0_lt {l : List Int} {k : Nat} (h : k < l.length) : at0 l k = l[k] := by simp [at0, List.getD, h]
theorem at0_succ (x : Int) (l : List Int) (k : Nat) : at0 (x :: l) (k + 1) = at0 l k := by simp [at0]
theorem at0_zero (x : Int) (l : List Int) : at0 (x :: l) 0 = x := by simp [at0]
def i64 (x : Int) : Prop := -9223372036854775808 ≤ x ∧ x ≤ 9223372036854775807
/-- a slice of ints -/
def SlI (w : World) (A : Option Addr) (n c : Nat) (l : List Int) : Prop := Sl w A n c 1 (l.map (Value.int .i64)) ∧ l.length = n ∧ ∀ x ∈ l, i64 x
section
variable {w w' : World} {A : Option Addr} {n c : Nat} {l : List Int}
theorem SlI.keep (h : SlI w A n c l) (hb : Below w.heap.size w w') : SlI w' A n c l := ⟨h.1.keep hb, h.2⟩
theorem SlI.nil (w : World) : SlI w none 0 0 [] := ⟨Sl.nil w 1, rfl, fun x h => by cases h⟩
theorem SlI.at_ (h : SlI w A n c l) {k : Nat} (hk : k < n) : ∃ b o, A = some ⟨b, o, none⟩ ∧ b < w.heap.size ∧ w.cell? ⟨b, o + k, none⟩ = some (.int .i64 (at0 l k)) := by
  obtain ⟨b, o, e, hb, hc⟩ := h.1.at_ (by omega)
  refine ⟨b, o, e, hb, hc k _ ?_⟩
  have : k < l.length := by have := h.2.1; omega
  simp [at0_lt this, List.getElem?_eq_getElem this]
theorem SlI.rng (h : SlI w A n c l) (k : Nat) : i64 (at0 l k) := by
  by_cases hk : k < l.length
  · rw [at0_lt hk]; exact h.2.2 _ (List.getElem_mem _)
  · have : at0 l k = 0 := by simp [at0, List.getD, Nat.le_of_not_lt hk]
    rw [this]; unfold i64; omega
theorem SlI.of_blk {g : Nat} {t : TypeId} {cs : Array Value} (h : Blk w g t cs) (l : List Int) (hcs : cs.toList = l.map (Value.int .i64)) (hl : l.length ≤ 1000000) (hr : ∀ x ∈ l, i64 x) : SlI w (some ⟨g, 0, none⟩) l.length l.length l :=
  ⟨⟨by simp, Nat.le_refl _, by unfold maxLen; omega, (fun e => by cases e), fun _ => ⟨g, 0, rfl, h.lt, fun j u hu => by rw [Nat.zero_add, h.cell j, ← hu, ← hcs]; simp⟩⟩, rfl, hr⟩
theorem SlI.lt_ (h : SlI w A n c l) (hn : 0 < n) {g o : Nat} (e : A = some ⟨g, o, none⟩) : g < w.heap.size := by
  obtain ⟨b', o', e', hlt, _⟩ := h.1.at_ hn
  rw [e'] at e
  cases e
  exact hlt
theorem SlI.ne_ (h : SlI w A n c l) {b : Nat} (hb : w.heap.size ≤ b) (hn : 0 < n) : ∀ g o, A = some ⟨g, o, none⟩ → g ≠ b := by
  obtain ⟨b', o', e, hlt, _⟩ := h.1.at_ hn
  intro g o e'
  rw [e] at e'
  cases e'
  omega
theorem SlI.len (h : SlI w A n c l) : n ≤ 9223372036854775807 := h.1.len_le
end

/-! ### Bytes -/
def bv (x : UInt8) : Value := .int .u8 (x.toNat : Int)
def atB (l : List UInt8) (k : Nat) : UInt8 := l.getD k 0
theorem atB_lt {l : List UInt8} {k : Nat} (h : k < l.length) : atB l k = l[k] := by simp [atB, List.getD, h]
theorem u8_lt (x : UInt8) : x.toNat < 256 := x.toNat_lt
/-- a slice of bytes -/
def SlB (w : World) (A : Option Addr) (n c : Nat) (l : List UInt8) : Prop := Sl w A n c 1 (l.map bv) ∧ l.length = n
section
variable {w w' : World} {A : Option Addr} {n c : Nat} {l : List UInt8}
theorem SlB.keep (h : SlB w A n c l) (hb : Below w.heap.size w w') : SlB w' A n c l := ⟨h.1.keep hb, h.2⟩
theorem SlB.fr {S : Nat → Prop} (h : SlB w A n c l) (hb : Fr S w w') (hS : ∀ b o, 0 < n → A = some ⟨b, o, none⟩ → ¬ S b) : SlB w' A n c l := ⟨h.1.fr hb hS, h.2⟩
theorem SlB.nil (w : World) : SlB w none 0 0 [] := ⟨Sl.nil w 1, rfl⟩
theorem SlB.at_ (h : SlB w A n c l) {k : Nat} (hk : k < n) : ∃ b o, A = some ⟨b, o, none⟩ ∧ b < w.heap.size ∧ w.cell? ⟨b, o + k, none⟩ = some (.int .u8 ((atB l k).toNat : Int)) := by
  obtain ⟨b, o, e, hb, hc⟩ := h.1.at_ (by omega)
  refine ⟨b, o, e, hb, hc k _ ?_⟩
  have : k < l.length := by have := h.2; omega
  simp [atB_lt this, List.getElem?_eq_getElem this, bv]
theorem SlB.len (h : SlB w A n c l) : n ≤ 9223372036854775807 := h.1.len_le
theorem SlB.lt_ (h : SlB w A n c l) (hn : 0 < n) {g o : Nat} (e : A = some ⟨g, o, none⟩) : g < w.heap.size := by
  obtain ⟨b', o', e', hlt, _⟩ := h.1.at_ hn
  rw [e'] at e
  cases e
  exact hlt
theorem SlB.of_own {base : Nat} {e : TypeId} {v : Value} {n : Nat} {l : List UInt8} (h : w.ownsRow base e 1 v n (l.map bv)) : ∃ A c, v = .slice A n c ∧ SlB w A n c l ∧ ∀ b o, A = some ⟨b, o, none⟩ → base ≤ b := by
  obtain ⟨A, c, hv, hs, hb⟩ := Sl.of_own h
  exact ⟨A, c, hv, ⟨hs, by have := hs.1; simpa using this⟩, hb⟩
theorem SlB.of_blk {g : Nat} {t : TypeId} {cs : Array Value} (h : Blk w g t cs) (l : List UInt8) (hcs : cs.toList = l.map bv) (hl : l.length ≤ 1000000) : SlB w (some ⟨g, 0, none⟩) l.length l.length l :=
  ⟨⟨by simp, Nat.le_refl _, by unfold maxLen; omega, (fun e => by cases e), fun _ => ⟨g, 0, rfl, h.lt, fun j u hu => by rw [Nat.zero_add, h.cell j, ← hu, ← hcs]; simp⟩⟩, rfl⟩
end

/-- 'string(b)' -/
theorem run_bytes_str {P : Program} {w : World} {A : Option Addr} {n c : Nat} {l : List UInt8} (src dst e : TypeId) (hs : P.underlying src = some (.slice e)) (he : P.underlying e = some (.int .u8)) (hd : P.underlying dst = some .string) (h : SlB w A n c l) :
    (convert src dst (.slice A n c)).run P w = .ok (.string ⟨l.toArray⟩) w := by
  obtain ⟨h1, rfl⟩ := h
  cases A with
  | none =>
    have hc := h1.2.2.2.1 rfl
    have : l = [] := List.eq_nil_of_length_eq_zero (by have := h1.2.1; omega)
    subst this
    exact Go.Lib.run_convert_nil_bytes w src dst e c hs he hd
  | some a =>
    refine run_convert_bytes_back w src dst e a c l hs he hd (fun j hj => ?_)
    obtain ⟨b, o, e', _, hcell⟩ := h1.at_ (by omega)
    cases e'
    rw [add_none]
    exact hcell j _ (by simp [List.getElem?_eq_getElem hj, bv])

/-! ### append(out, x): x lies in a new block of its own; out is owned. -/
theorem wpList_app1 {P : Program} {ops : Array Oper} {rest : List Oper} {o : Oper} {a : Act} {Q : Exit → Act → World → Prop} (w : World) (hgd : o.guard = none) (s x : Operand) (t : TypeId)
    (ho : o.op = .call { callee := .builtin .append, args := #[s, x], argTypes := #[t, t] })
    (base : Nat) (e : TypeId) (i : TypeInfo) (z : Value) (size bytes : Nat) (ht : P.underlying t = some (.slice e)) (hi : P.info? e = some i) (hz : i.zero = some z)
    (hsize : i.size = size) (hby : i.bytes = bytes) (hzs : z.cells.size = size) (hsz : 0 < size) (hb8 : bytes ≤ 1000000)
    (v : Value) (n : Nat) (xs : List Value) (hs : a.eval s = v) (hown : w.ownsRow base e size v n xs) (cs : Array Value) (hcs : cs.size = size) (h1 : ∀ u ∈ cs.toList, u.oneCell' = true)
    (hx : a.eval x = .slice (some ⟨w.heap.size, 0, none⟩) 1 1) (hn : n ≤ 1000000) (hbase : base ≤ w.heap.size)
    (h : ∀ v' w', w'.ownsRow base e size v' (n + 1) (xs ++ cs.toList) → Fr (fun k => v.ownBlock = some k) w w' → (v'.ownBlock = v.ownBlock ∨ ∃ g, v'.ownBlock = some g ∧ w.heap.size ≤ g) → wpList P ops Q rest (a.put o.dst v') w') :
    wpList P ops Q (o :: rest) a (w.alloc (.cells cs e)) := by
  have hbytes : (n + 1) * bytes ≤ 140737488355328 := Nat.le_trans (Nat.mul_le_mul (show n + 1 ≤ 1000001 by omega) hb8) (by decide)
  refine wpList_append_own_at (w.alloc (.cells cs e)) hgd s x t ho base e i z size bytes ht hi hz hsize hby hzs hsz v n xs hs (hown.alloc _) ⟨w.heap.size, 0, none⟩ 1 1 cs.toList hx (by simpa using hcs) ?_ h1 (by unfold maxLen; omega) hbytes (by simp; omega) ?_
  · intro j u hu
    have hadd : (⟨w.heap.size, 0, none⟩ : Addr).add j = ⟨w.heap.size, j, none⟩ := by rw [add_none, Nat.zero_add]
    rw [hadd, cell_of_row _ _ j cs e (0, 0) (heap_alloc_new w _)]
    simpa using hu
  · intro v' w' h2 h3 _ h5
    refine h v' w' h2 ?_ ?_
    · exact ((Fr.refl _ w).alloc _).grown h3 (fun k _ hk => hk)
    · rcases h5 with h5 | h5
      · exact .inl h5
      · exact .inr ⟨_, h5, by simp⟩
theorem own_far {S : Nat → Prop} {w w' : World} {base : Nat} {e : TypeId} {size n : Nat} {v : Value} {xs : List Value} (h : w.ownsRow base e size v n xs) (hf : Fr S w w') (hS : ∀ k, S k → k < base) : w'.ownsRow base e size v n xs :=
  own_fr h hf (fun k hk _ hS' => by have := hS k hS'; omega)
/-- append(out, x) as one operation; x lies in block h; out is owned. -/
theorem wp_app_blk {P : Program} {o : Oper} {a : Act} {K : Act → World → Prop} {Q : Exit → Act → World → Prop} (w : World) (s x : Operand) (t : TypeId)
    (ho : o.op = .call { callee := .builtin .append, args := #[s, x], argTypes := #[t, t] })
    (base : Nat) (e : TypeId) (i : TypeInfo) (z : Value) (size bytes : Nat) (ht : P.underlying t = some (.slice e)) (hi : P.info? e = some i) (hz : i.zero = some z)
    (hsize : i.size = size) (hby : i.bytes = bytes) (hzs : z.cells.size = size) (hsz : 0 < size) (hb8 : bytes ≤ 1000000)
    (v : Value) (n : Nat) (xs : List Value) (hs : a.eval s = v) (hown : w.ownsRow base e size v n xs) (h : Nat) (cs : Array Value) (hcs : cs.size = size) (h1 : ∀ u ∈ cs.toList, u.oneCell' = true)
    (hblk : Blk w h e cs) (hx : a.eval x = .slice (some ⟨h, 0, none⟩) 1 1) (hn : n ≤ 1000000) (hbase : base ≤ w.heap.size)
    (H : ∀ g cap w', w'.ownsRow base e size (.slice (some ⟨g, 0, none⟩) (n + 1) cap) (n + 1) (xs ++ cs.toList) → Fr (fun k => v.ownBlock = some k) w w' → (v.ownBlock = some g ∨ g = w.heap.size) → K (a.put o.dst (.slice (some ⟨g, 0, none⟩) (n + 1) cap)) w') :
    o.wp P a w K Q := by
  have hbytes : (n + 1) * bytes ≤ 140737488355328 := Nat.le_trans (Nat.mul_le_mul (show n + 1 ≤ 1000001 by omega) hb8) (by decide)
  refine wp_append_lies w s x t ho base e i z size bytes ht hi hz hsize hby hzs hsz v n xs hs hown ⟨h, 0, none⟩ 1 1 cs.toList hx (by simpa using hcs) ?_ h1 (by decide) (by unfold maxLen; omega) hbytes hbase _ rfl ?_
  · intro j u hu
    rw [add_none, Nat.zero_add, hblk.cell j]
    simpa using hu
  · intro g cap w' h2 h3 h4 _
    exact H g cap w' h2 ((Fr.refl _ w).grown h3 (fun k _ hk => hk)) h4
end Go.Proofs.Ytiglabknaldinaa
