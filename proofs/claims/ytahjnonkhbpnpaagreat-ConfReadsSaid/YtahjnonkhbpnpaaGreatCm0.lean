/- Words and walks for the claims of this seat, merged: Base, Mix, MixC. -/
import Derived.WalkKit
import Derived.Deep.QuietTactic
import Derived.BigQuiet
import Derived.Lib.Hide
import Derived.Maps.AppendAt
import Derived.Deep.AppendLies
import Derived.Deep.Draws
import Derived.Lib.BufferRead
import Derived.Laws.IdiomStrings
/- Words on memory that all texts of this seat share: a frame with named blocks (Fr), a block known whole (Blk), a slice that is read (Sl), an owned slice (kit: ownsRow) and its append. -/
namespace Go.Proofs.YtahjnonkhbpnpaaGreat
open Go.RowKit

/- a store of a value of which it is known that it is one cell -/
attribute [go_sem] Go.run_store

theorem add_none (b o j : Nat) : (⟨b, o, none⟩ : Addr).add j = ⟨b, o + j, none⟩ := by unfold Addr.add; split <;> simp_all
/-! ### Fr S w w': all blocks that were, but those in S, are as they were. -/
structure Fr (S : Nat → Prop) (w w' : World) : Prop where
  os : w'.os = w.os
  tape : w'.tape = w.tape
  output : w'.output = w.output
  size : w.heap.size ≤ w'.heap.size
  block : ∀ k, k < w.heap.size → ¬ S k → w'.heap[k]? = w.heap[k]?
section
variable {S S' : Nat → Prop} {w w' w'' : World}
theorem Fr.refl (S : Nat → Prop) (w : World) : Fr S w w := ⟨rfl, rfl, rfl, Nat.le_refl _, fun _ _ _ => rfl⟩
theorem Fr.mono (h : Fr S w w') (hs : ∀ k, k < w.heap.size → S k → S' k) : Fr S' w w' :=
  ⟨h.os, h.tape, h.output, h.size, fun k hk hn => h.block k hk fun hS => hn (hs k hk hS)⟩
theorem Fr.trans' (h : Fr S w w') (k : Fr S' w' w'') (hs : ∀ k, k < w.heap.size → S' k → S k) : Fr S w w'' :=
  ⟨k.os.trans h.os, k.tape.trans h.tape, k.output.trans h.output, Nat.le_trans h.size k.size, fun i hi hn => (k.block i (Nat.lt_of_lt_of_le hi h.size) fun hS => hn (hs i hi hS)).trans (h.block i hi hn)⟩
theorem Fr.trans (h : Fr S w w') (k : Fr S w' w'') : Fr S w w'' := h.trans' k fun _ _ h => h
theorem Fr.of_below (h : Below w.heap.size w w') (S : Nat → Prop) : Fr S w w' := ⟨h.os, h.tape, h.output, h.size, fun k hk _ => h.block k hk⟩
theorem Fr.below {B : Nat} (h : Fr S w w') (hs : ∀ k, k < B → ¬ S k) (hB : B ≤ w.heap.size) : Below B w w' :=
  ⟨h.os, h.tape, h.output, h.size, fun k hk => h.block k (by omega) (hs k hk)⟩
theorem Fr.drew (h : Fr S w w') : Fr S w w'.drew := ⟨h.os, h.tape, h.output, h.size, h.block⟩
theorem Fr.drewN (h : Fr S w w') (n : Nat) : Fr S w (w'.drewN n) := ⟨h.os, h.tape, h.output, h.size, h.block⟩
theorem Fr.alloc (h : Fr S w w') (o : Obj) : Fr S w (w'.alloc o) :=
  h.trans ⟨rfl, rfl, rfl, by simp, fun k hk _ => Below.heap_alloc _ _ _ hk⟩
theorem Fr.setCell (h : Fr S w w') {p : Addr} (hp : p.block < w.heap.size → S p.block) (u : Value) : Fr S w (w'.setCell p u) :=
  ⟨h.os, h.tape, h.output, by simpa using h.size, fun k hk hn => (Below.heap_setCell _ _ _ _ (fun e => by subst e; exact hn (hp hk))).trans (h.block k hk hn)⟩
theorem Fr.grown {row : Option Nat} (h : Fr S w w') (hg : w'.grownBy w'' row) (hr : ∀ k, k < w.heap.size → row = some k → S k) : Fr S w w'' :=
  ⟨hg.os.trans h.os, hg.tape.trans h.tape, hg.output.trans h.output, Nat.le_trans h.size hg.size,
    fun k hk hn => (hg.block k (Nat.lt_of_lt_of_le hk h.size) (fun e => hn (hr k hk e.symm))).trans (h.block k hk hn)⟩
theorem Fr.cell (h : Fr S w w') {p : Addr} (hp : p.block < w.heap.size) (hn : ¬ S p.block) : w'.cell? p = w.cell? p := World.cell?_of_block (w := w) (h.block p.block hp hn)
end
theorem bcell {W w1 : World} (hb : Below W.heap.size W w1) : (∀ b o, b < W.heap.size → w1.cell? ⟨b, o, none⟩ = W.cell? ⟨b, o, none⟩) ∧ (∀ b o, b < W.heap.size → w1.frozen? ⟨b, o, none⟩ = W.frozen? ⟨b, o, none⟩) :=
  ⟨fun b o h => hb.cell (p := ⟨b, o, none⟩) h, fun b o h => hb.frozen (p := ⟨b, o, none⟩) h⟩
theorem below_drewN {B : Nat} {a w : World} (h : Below B a w) (n : Nat) : Below B a (w.drewN n) := ⟨h.os, h.tape, h.output, h.size, h.block⟩
theorem below_refl_drewN (B : Nat) (w : World) (n : Nat) : Below B w (w.drewN n) := ⟨rfl, rfl, rfl, Nat.le_refl _, fun _ _ => rfl⟩

/-! ### A block that is known whole -/
def Blk (w : World) (g : Nat) (t : TypeId) (cs : Array Value) : Prop := w.heap[g]? = some (.cells cs t (0, 0))
section
variable {w w' : World} {g : Nat} {t : TypeId} {cs : Array Value}
theorem Blk.lt (h : Blk w g t cs) : g < w.heap.size := by
  rcases Nat.lt_or_ge g w.heap.size with hlt | hge
  · exact hlt
  · unfold Blk at h; rw [Array.getElem?_eq_none hge] at h; cases h
theorem Blk.cell (h : Blk w g t cs) (i : Nat) : w.cell? ⟨g, i, none⟩ = cs[i]? := cell_of_row w g i cs t (0, 0) h
theorem Blk.frozen (h : Blk w g t cs) (i : Nat) : w.frozen? ⟨g, i, none⟩ = false := by
  unfold Blk at h
  simp [World.frozen?, h]
theorem Blk.new (w : World) (t : TypeId) (cs : Array Value) : Blk (w.alloc (.cells cs t)) w.heap.size t cs := heap_alloc_new w _
theorem Blk.drew (h : Blk w g t cs) : Blk w.drew g t cs := h
theorem Blk.drewN (h : Blk w g t cs) (n : Nat) : Blk (w.drewN n) g t cs := h
theorem Blk.alloc (h : Blk w g t cs) (o : Obj) : Blk (w.alloc o) g t cs := (Below.heap_alloc w o g h.lt).trans h
theorem Blk.set_ (h : Blk w g t cs) (i : Nat) (u : Value) : Blk (w.setCell ⟨g, i, none⟩ u) g t (cs.setIfInBounds i u) := by
  unfold Blk at h ⊢
  simp [World.setCell, Array.getElem?_modify, h]
theorem Blk.far (h : Blk w g t cs) {p : Addr} (hp : g ≠ p.block) (u : Value) : Blk (w.setCell p u) g t cs := (Below.heap_setCell w p u g hp).trans h
theorem Blk.below {B : Nat} (h : Blk w g t cs) (hb : Below B w w') (hg : g < B) : Blk w' g t cs := (hb.block g hg).trans h
theorem Blk.keep (h : Blk w g t cs) (hb : Below w.heap.size w w') : Blk w' g t cs := h.below hb h.lt
theorem Blk.fr {S : Nat → Prop} (h : Blk w g t cs) (hb : Fr S w w') (hg : ¬ S g) : Blk w' g t cs := (hb.block g h.lt hg).trans h
theorem Blk.grown {row : Option Nat} (h : Blk w g t cs) (hb : w.grownBy w' row) (hg : some g ≠ row) : Blk w' g t cs := (hb.block g h.lt hg).trans h
end

/-! ### A slice that is read: 'Sl w A n c size xs': the value '.slice A n c' has the cells xs (n * size of them). -/
def Sl (w : World) (A : Option Addr) (n c size : Nat) (xs : List Value) : Prop :=
  xs.length = n * size ∧ n ≤ c ∧ c ≤ maxLen ∧ (A = none → c = 0) ∧
  (0 < n → ∃ b o, A = some ⟨b, o, none⟩ ∧ b < w.heap.size ∧ ∀ j u, xs[j]? = some u → w.cell? ⟨b, o + j, none⟩ = some u)
section
variable {w w' : World} {A : Option Addr} {n c size : Nat} {xs : List Value}
theorem Sl.nil (w : World) (size : Nat) : Sl w none 0 0 size [] := ⟨by simp, Nat.le_refl _, by simp [maxLen], fun _ => rfl, fun h => absurd h (by omega)⟩
theorem Sl.keep' (h : Sl w A n c size xs) (hs : w.heap.size ≤ w'.heap.size) (hk : ∀ b o, 0 < n → A = some ⟨b, o, none⟩ → b < w.heap.size → ∀ i, w'.cell? ⟨b, i, none⟩ = w.cell? ⟨b, i, none⟩) : Sl w' A n c size xs := by
  obtain ⟨h1, h2, h3, h4, h5⟩ := h
  refine ⟨h1, h2, h3, h4, fun hn => ?_⟩
  obtain ⟨b, o, e, hb, hc⟩ := h5 hn
  exact ⟨b, o, e, by omega, fun j u hu => (hk b o hn e hb _).trans (hc j u hu)⟩
theorem Sl.keep (h : Sl w A n c size xs) (hb : Below w.heap.size w w') : Sl w' A n c size xs :=
  h.keep' hb.size fun _ _ _ _ hlt i => hb.cell (p := ⟨_, i, none⟩) hlt
theorem Sl.fr {S : Nat → Prop} (h : Sl w A n c size xs) (hb : Fr S w w') (hS : ∀ b o, 0 < n → A = some ⟨b, o, none⟩ → ¬ S b) : Sl w' A n c size xs :=
  h.keep' hb.size fun b o hn e hlt i => hb.cell (p := ⟨b, i, none⟩) hlt (hS b o hn e)
theorem Sl.at_ (h : Sl w A n c size xs) (hn : 0 < n) : ∃ b o, A = some ⟨b, o, none⟩ ∧ b < w.heap.size ∧ ∀ j u, xs[j]? = some u → w.cell? ⟨b, o + j, none⟩ = some u := h.2.2.2.2 hn
theorem Sl.len_le (h : Sl w A n c size xs) : n ≤ 9223372036854775807 := by
  have h2 := h.2.1; have h3 := h.2.2.1; simp only [maxLen] at h3; omega
theorem Sl.of_own {base : Nat} {e : TypeId} {v : Value} (h : w.ownsRow base e size v n xs) : ∃ A c, v = .slice A n c ∧ Sl w A n c size xs ∧ ∀ b o, A = some ⟨b, o, none⟩ → base ≤ b := by
  obtain ⟨hl, h⟩ := h
  rcases h with ⟨rfl, rfl⟩ | ⟨g, cap, cur, rfl, hb, hh, hn, hc, hs, ht⟩
  · have : xs = [] := List.eq_nil_of_length_eq_zero (by simpa using hl)
    subst this
    exact ⟨none, 0, rfl, Sl.nil w size, fun b o h => by cases h⟩
  · refine ⟨some ⟨g, 0, none⟩, cap, rfl, ⟨hl, hn, hc, (fun h => by cases h), fun _ => ⟨g, 0, rfl, (Array.getElem?_eq_some_iff.1 hh).1, fun j u hu => ?_⟩⟩, fun b o h => by cases h; exact hb⟩
    rw [Nat.zero_add, cell_of_row w g j cur e (0, 0) hh]
    rw [← ht, List.getElem?_take] at hu
    split at hu
    · simpa using hu
    · cases hu
end
theorem own_fr {S : Nat → Prop} {w w' : World} {base : Nat} {e : TypeId} {size n : Nat} {v : Value} {xs : List Value} (h : w.ownsRow base e size v n xs) (hf : Fr S w w') (hS : ∀ k, base ≤ k → v.ownBlock = some k → ¬ S k) : w'.ownsRow base e size v n xs := by
  refine ⟨h.1, ?_⟩
  rcases h.2 with hn | ⟨g, cap, cur, rfl, hb, hgg, rest⟩
  · exact .inl hn
  · refine .inr ⟨g, cap, cur, rfl, hb, ?_, rest⟩
    rw [hf.block g (Array.getElem?_eq_some_iff.1 hgg).1 (hS g hb rfl)]
    exact hgg
theorem own_below {w w' : World} {base : Nat} {e : TypeId} {size n : Nat} {v : Value} {xs : List Value} (h : w.ownsRow base e size v n xs) (hf : Below w.heap.size w w') : w'.ownsRow base e size v n xs :=
  own_fr (S := fun _ => False) h (Fr.of_below hf _) (fun _ _ _ h => h)
theorem own_mono {w : World} {base base' : Nat} {e : TypeId} {size n : Nat} {v : Value} {xs : List Value} (h : w.ownsRow base e size v n xs) (hb : base' ≤ base) : w.ownsRow base' e size v n xs := by
  refine ⟨h.1, ?_⟩
  rcases h.2 with hn | ⟨g, cap, cur, rfl, hbg, rest⟩
  · exact .inl hn
  · exact .inr ⟨g, cap, cur, rfl, by omega, rest⟩
theorem own_ne {w : World} {base : Nat} {e : TypeId} {size n : Nat} {v : Value} {xs : List Value} (h : w.ownsRow base e size v n xs) {k : Nat} (hk : k < base) : some k ≠ v.ownBlock :=
  fun e => by have := (h.lt k e.symm).1; omega
/-- l[k], or 0; simp does not look into it. -/
def at0 (l : List Int) (k : Nat) : Int := l.getD k 0
theorem at0_lt {l : List Int} {k : Nat} (h : k < l.length) : at0 l k = l[k] := by simp [at0, List.getD, h]
theorem at0_succ (x : Int) (l : List Int) (k : Nat) : at0 (x :: l) (k + 1) = at0 l k := by simp [at0]
theorem at0_zero (x : Int) (l : List Int) : at0 (x :: l) 0 = x := by simp [at0]
def i64 (x : Int) : Prop := -9223372036854775808 ≤ x ∧ x ≤ 9223372036854775807
/-- a slice of ints -/
def SlI (w : World) (A : Option Addr) (n c : Nat) (l : List Int) : Prop := Sl w A n c 1 (l.map (Value.int .i64)) ∧ l.length = n ∧ ∀ x ∈ l, i64 x
section
variable {w w' : World} {A : Option Addr} {n c : Nat} {l : List Int}
theorem SlI.keep (h : SlI w A n c l) (hb : Below w.heap.size w w') : SlI w' A n c l := ⟨h.1.keep hb, h.2⟩
theorem SlI.nil (w : World) : SlI w none 0 0 [] := ⟨Sl.nil w 1, rfl, fun x h => by cases h⟩
theorem SlI.at_ (h : SlI w A n c l) {k : Nat} (hk : k < n) : ∃ b o, A = some ⟨b, o, none⟩ ∧ b < w.heap.size ∧ w.cell? ⟨b, o + k, none⟩ = some (.int .i64 (at0 l k)) := by
  obtain ⟨b, o, e, hb, hc⟩ := h.1.at_ (by omega)
  refine ⟨b, o, e, hb, hc k _ ?_⟩
  have : k < l.length := by have := h.2.1; omega
  simp [at0_lt this, List.getElem?_eq_getElem this]
theorem SlI.rng (h : SlI w A n c l) (k : Nat) : i64 (at0 l k) := by
  by_cases hk : k < l.length
  · rw [at0_lt hk]; exact h.2.2 _ (List.getElem_mem _)
  · have : at0 l k = 0 := by simp [at0, List.getD, Nat.le_of_not_lt hk]
    rw [this]; unfold i64; omega
theorem SlI.of_blk {g : Nat} {t : TypeId} {cs : Array Value} (h : Blk w g t cs) (l : List Int) (hcs : cs.toList = l.map (Value.int .i64)) (hl : l.length ≤ 1000000) (hr : ∀ x ∈ l, i64 x) : SlI w (some ⟨g, 0, none⟩) l.length l.length l :=
  ⟨⟨by simp, Nat.le_refl _, by unfold maxLen; omega, (fun e => by cases e), fun _ => ⟨g, 0, rfl, h.lt, fun j u hu => by rw [Nat.zero_add, h.cell j, ← hu, ← hcs]; simp⟩⟩, rfl, hr⟩
theorem SlI.lt_ (h : SlI w A n c l) (hn : 0 < n) {g o : Nat} (e : A = some ⟨g, o, none⟩) : g < w.heap.size := by
  obtain ⟨b', o', e', hlt, _⟩ := h.1.at_ hn
  rw [e'] at e
  cases e
  exact hlt
theorem SlI.ne_ (h : SlI w A n c l) {b : Nat} (hb : w.heap.size ≤ b) (hn : 0 < n) : ∀ g o, A = some ⟨g, o, none⟩ → g ≠ b := by
  obtain ⟨b', o', e, hlt, _⟩ := h.1.at_ hn
  intro g o e'
  rw [e] at e'
  cases e'
  omega
theorem SlI.len (h : SlI w A n c l) : n ≤ 9223372036854775807 := h.1.len_le
end

/-! ### Bytes -/
def bv (x : UInt8) : Value := .int .u8 (x.toNat : Int)
def atB (l : List UInt8) (k : Nat) : UInt8 := l.getD k 0
theorem atB_lt {l : List UInt8} {k : Nat} (h : k < l.length) : atB l k = l[k] := by simp [atB, List.getD, h]
theorem u8_lt (x : UInt8) : x.toNat < 256 := x.toNat_lt
/-- a slice of bytes -/
def SlB (w : World) (A : Option Addr) (n c : Nat) (l : List UInt8) : Prop := Sl w A n c 1 (l.map bv) ∧ l.length = n
section
variable {w w' : World} {A : Option Addr} {n c : Nat} {l : List UInt8}
theorem SlB.keep (h : SlB w A n c l) (hb : Below w.heap.size w w') : SlB w' A n c l := ⟨h.1.keep hb, h.2⟩
theorem SlB.fr {S : Nat → Prop} (h : SlB w A n c l) (hb : Fr S w w') (hS : ∀ b o, 0 < n → A = some ⟨b, o, none⟩ → ¬ S b) : SlB w' A n c l := ⟨h.1.fr hb hS, h.2⟩
theorem SlB.nil (w : World) : SlB w none 0 0 [] := ⟨Sl.nil w 1, rfl⟩
theorem SlB.at_ (h : SlB w A n c l) {k : Nat} (hk : k < n) : ∃ b o, A = some ⟨b, o, none⟩ ∧ b < w.heap.size ∧ w.cell? ⟨b, o + k, none⟩ = some (.int .u8 ((atB l k).toNat : Int)) := by
  obtain ⟨b, o, e, hb, hc⟩ := h.1.at_ (by omega)
  refine ⟨b, o, e, hb, hc k _ ?_⟩
  have : k < l.length := by have := h.2; omega
  simp [atB_lt this, List.getElem?_eq_getElem this, bv]
theorem SlB.len (h : SlB w A n c l) : n ≤ 9223372036854775807 := h.1.len_le
theorem SlB.lt_ (h : SlB w A n c l) (hn : 0 < n) {g o : Nat} (e : A = some ⟨g, o, none⟩) : g < w.heap.size := by
  obtain ⟨b', o', e', hlt, _⟩ := h.1.at_ hn
  rw [e'] at e
  cases e
  exact hlt
theorem SlB.of_own {base : Nat} {e : TypeId} {v : Value} {n : Nat} {l : List UInt8} (h : w.ownsRow base e 1 v n (l.map bv)) : ∃ A c, v = .slice A n c ∧ SlB w A n c l ∧ ∀ b o, A = some ⟨b, o, none⟩ → base ≤ b := by
  obtain ⟨A, c, hv, hs, hb⟩ := Sl.of_own h
  exact ⟨A, c, hv, ⟨hs, by have := hs.1; simpa using this⟩, hb⟩
theorem SlB.of_blk {g : Nat} {t : TypeId} {cs : Array Value} (h : Blk w g t cs) (l : List UInt8) (hcs : cs.toList = l.map bv) (hl : l.length ≤ 1000000) : SlB w (some ⟨g, 0, none⟩) l.length l.length l :=
  ⟨⟨by simp, Nat.le_refl _, by unfold maxLen; omega, (fun e => by cases e), fun _ => ⟨g, 0, rfl, h.lt, fun j u hu => by rw [Nat.zero_add, h.cell j, ← hu, ← hcs]; simp⟩⟩, rfl⟩
end

/-- 'string(b)' -/
theorem run_bytes_str {P : Program} {w : World} {A : Option Addr} {n c : Nat} {l : List UInt8} (src dst e : TypeId) (hs : P.underlying src = some (.slice e)) (he : P.underlying e = some (.int .u8)) (hd : P.underlying dst = some .string) (h : SlB w A n c l) :
    (convert src dst (.slice A n c)).run P w = .ok (.string ⟨l.toArray⟩) w := by
  obtain ⟨h1, rfl⟩ := h
  cases A with
  | none =>
    have hc := h1.2.2.2.1 rfl
    have : l = [] := List.eq_nil_of_length_eq_zero (by have := h1.2.1; omega)
    subst this
    exact Go.Lib.run_convert_nil_bytes w src dst e c hs he hd
  | some a =>
    refine run_convert_bytes_back w src dst e a c l hs he hd (fun j hj => ?_)
    obtain ⟨b, o, e', _, hcell⟩ := h1.at_ (by omega)
    cases e'
    rw [add_none]
    exact hcell j _ (by simp [List.getElem?_eq_getElem hj, bv])

/-! ### append(out, x): x lies in a new block of its own; out is owned. -/
theorem wpList_app1 {P : Program} {ops : Array Oper} {rest : List Oper} {o : Oper} {a : Act} {Q : Exit → Act → World → Prop} (w : World) (hgd : o.guard = none) (s x : Operand) (t : TypeId)
    (ho : o.op = .call { callee := .builtin .append, args := #[s, x], argTypes := #[t, t] })
    (base : Nat) (e : TypeId) (i : TypeInfo) (z : Value) (size bytes : Nat) (ht : P.underlying t = some (.slice e)) (hi : P.info? e = some i) (hz : i.zero = some z)
    (hsize : i.size = size) (hby : i.bytes = bytes) (hzs : z.cells.size = size) (hsz : 0 < size) (hb8 : bytes ≤ 1000000)
    (v : Value) (n : Nat) (xs : List Value) (hs : a.eval s = v) (hown : w.ownsRow base e size v n xs) (cs : Array Value) (hcs : cs.size = size) (h1 : ∀ u ∈ cs.toList, u.oneCell' = true)
    (hx : a.eval x = .slice (some ⟨w.heap.size, 0, none⟩) 1 1) (hn : n ≤ 1000000) (hbase : base ≤ w.heap.size)
    (h : ∀ v' w', w'.ownsRow base e size v' (n + 1) (xs ++ cs.toList) → Fr (fun k => v.ownBlock = some k) w w' → (v'.ownBlock = v.ownBlock ∨ ∃ g, v'.ownBlock = some g ∧ w.heap.size ≤ g) → wpList P ops Q rest (a.put o.dst v') w') :
    wpList P ops Q (o :: rest) a (w.alloc (.cells cs e)) := by
  have hbytes : (n + 1) * bytes ≤ 140737488355328 := Nat.le_trans (Nat.mul_le_mul (show n + 1 ≤ 1000001 by omega) hb8) (by decide)
  refine wpList_append_own_at (w.alloc (.cells cs e)) hgd s x t ho base e i z size bytes ht hi hz hsize hby hzs hsz v n xs hs (hown.alloc _) ⟨w.heap.size, 0, none⟩ 1 1 cs.toList hx (by simpa using hcs) ?_ h1 (by unfold maxLen; omega) hbytes (by simp; omega) ?_
  · intro j u hu
    have hadd : (⟨w.heap.size, 0, none⟩ : Addr).add j = ⟨w.heap.size, j, none⟩ := by rw [add_none, Nat.zero_add]
    rw [hadd, cell_of_row _ _ j cs e (0, 0) (heap_alloc_new w _)]
    simpa using hu
  · intro v' w' h2 h3 _ h5
    refine h v' w' h2 ?_ ?_
    · exact ((Fr.refl _ w).alloc _).grown h3 (fun k _ hk => hk)
    · rcases h5 with h5 | h5
      · exact .inl h5
      · exact .inr ⟨_, h5, by simp⟩
theorem own_far {S : Nat → Prop} {w w' : World} {base : Nat} {e : TypeId} {size n : Nat} {v : Value} {xs : List Value} (h : w.ownsRow base e size v n xs) (hf : Fr S w w') (hS : ∀ k, S k → k < base) : w'.ownsRow base e size v n xs :=
  own_fr h hf (fun k hk _ hS' => by have := hS k hS'; omega)
/-- append(out, x) as one operation; x lies in block h; out is owned. -/
theorem wp_app_blk {P : Program} {o : Oper} {a : Act} {K : Act → World → Prop} {Q : Exit → Act → World → Prop} (w : World) (s x : Operand) (t : TypeId)
    (ho : o.op = .call { callee := .builtin .append, args := #[s, x], argTypes := #[t, t] })
    (base : Nat) (e : TypeId) (i : TypeInfo) (z : Value) (size bytes : Nat) (ht : P.underlying t = some (.slice e)) (hi : P.info? e = some i) (hz : i.zero = some z)
    (hsize : i.size = size) (hby : i.bytes = bytes) (hzs : z.cells.size = size) (hsz : 0 < size) (hb8 : bytes ≤ 1000000)
    (v : Value) (n : Nat) (xs : List Value) (hs : a.eval s = v) (hown : w.ownsRow base e size v n xs) (h : Nat) (cs : Array Value) (hcs : cs.size = size) (h1 : ∀ u ∈ cs.toList, u.oneCell' = true)
    (hblk : Blk w h e cs) (hx : a.eval x = .slice (some ⟨h, 0, none⟩) 1 1) (hn : n ≤ 1000000) (hbase : base ≤ w.heap.size)
    (H : ∀ g cap w', w'.ownsRow base e size (.slice (some ⟨g, 0, none⟩) (n + 1) cap) (n + 1) (xs ++ cs.toList) → Fr (fun k => v.ownBlock = some k) w w' → (v.ownBlock = some g ∨ g = w.heap.size) → K (a.put o.dst (.slice (some ⟨g, 0, none⟩) (n + 1) cap)) w') :
    o.wp P a w K Q := by
  have hbytes : (n + 1) * bytes ≤ 140737488355328 := Nat.le_trans (Nat.mul_le_mul (show n + 1 ≤ 1000001 by omega) hb8) (by decide)
  refine wp_append_lies w s x t ho base e i z size bytes ht hi hz hsize hby hzs hsz v n xs hs hown ⟨h, 0, none⟩ 1 1 cs.toList hx (by simpa using hcs) ?_ h1 (by decide) (by unfold maxLen; omega) hbytes hbase _ rfl ?_
  · intro j u hu
    rw [add_none, Nat.zero_add, hblk.cell j]
    simpa using hu
  · intro g cap w' h2 h3 h4 _
    exact H g cap w' h2 ((Fr.refl _ w).grown h3 (fun k _ hk => hk)) h4
end Go.Proofs.YtahjnonkhbpnpaaGreat
/- A region that draws its order, of steady operations (each yields one value in every world of a class) and moving ones (calls, appends, stores ..) that are chained by the region's own edges: ONE walk in the text's order serves every order. On the kit's Derived/Deep/Quiet. -/
namespace Go.Proofs.YtahjnonkhbpnpaaGreat
open Go.RowKit

/-! ### An operation that moves the world: it returns. -/
def uponN (P : Program) (o : Oper) (a : Act) (K : Act → World → Prop) : Result Next → Prop
  | .ok (.value v) w' => K (a.put o.dst v) w'
  | .ok .skip w' => K (a.put o.dst undef) w'
  | .ok (.enter f args) w' => Calls P f args w' fun e w'' => ∃ v, e = .returned v ∧ K (a.put o.dst v) w''
  | .ok (.row row args) w' => Rows P row args w' fun v w'' => K (a.put o.dst v) w''
  | _ => False
def wpN (P : Program) (o : Oper) (a : Act) (w : World) (K : Act → World → Prop) : Prop := uponN P o a K ((execOp a.eval o).run P w)
section
variable {P : Program} {ops : Array Oper} {md : Region.Mode} {C : World → Prop}
theorem wpN_mono {o : Oper} {a : Act} {w : World} {K K' : Act → World → Prop} (h : ∀ u w', K (a.put o.dst u) w' → K' (a.put o.dst u) w') (hh : wpN P o a w K) : wpN P o a w K' := by
  unfold wpN at *
  generalize (execOp a.eval o).run P w = r at *
  cases r with
  | ok n w' =>
    cases n <;> simp only [uponN] at hh ⊢
    case value v => exact h _ _ hh
    case skip => exact h _ _ hh
    case enter f args => exact hh.mono fun e w'' ⟨v, he, hk⟩ => ⟨v, he, h _ _ hk⟩
    case row row args => exact hh.mono fun v w'' hk => h _ _ hk
  | halt x w' => simp only [uponN] at hh
theorem wpN_some {o : Oper} {a : Act} {w : World} {K : Act → World → Prop} (hh : wpN P o a w K) : ∃ u w', K (a.put o.dst u) w' := by
  unfold wpN at *
  generalize (execOp a.eval o).run P w = r at *
  cases r with
  | ok n w' =>
    cases n <;> simp only [uponN] at hh
    case value v => exact ⟨_, _, hh⟩
    case skip => exact ⟨_, _, hh⟩
    case enter f args => obtain ⟨_, w'', _, ⟨v, _, hk⟩, _⟩ := hh []; exact ⟨v, w'', hk⟩
    case row row args => obtain ⟨v, w'', hk, _⟩ := hh default []; exact ⟨v, w'', hk⟩
  | halt x w' => simp only [uponN] at hh
theorem wpN_of_eq {o : Oper} {a b : Act} {w : World} {K K' : Act → World → Prop} (he : execOp b.eval o = execOp a.eval o) (h : ∀ u w', K (a.put o.dst u) w' → K' (b.put o.dst u) w') (hh : wpN P o a w K) : wpN P o b w K' := by
  unfold wpN at *
  rw [he]
  generalize (execOp a.eval o).run P w = r at *
  cases r with
  | ok n w' =>
    cases n <;> simp only [uponN] at hh ⊢
    case value v => exact h _ _ hh
    case skip => exact h _ _ hh
    case enter f args => exact hh.mono fun e w'' ⟨v, he, hk⟩ => ⟨v, he, h _ _ hk⟩
    case row row args => exact hh.mono fun v w'' hk => h _ _ hk
  | halt x w' => simp only [uponN] at hh
theorem wp_of_wpN {o : Oper} {a : Act} {w : World} {K : Act → World → Prop} {Q : Exit → Act → World → Prop} (hh : wpN P o a w K) : o.wp P a w K Q := by
  unfold wpN at hh
  unfold Oper.wp
  generalize (execOp a.eval o).run P w = r at *
  cases r with
  | ok n w' =>
    cases n <;> simp only [uponN] at hh <;> simp only [Oper.upon]
    case value v => exact hh
    case skip => exact hh
    case enter f args => exact hh.mono fun e w'' ⟨v, he, hk⟩ => by subst he; exact hk
    case row row args => exact hh
  | halt x w' => simp only [uponN] at hh
/-- from the walk's own form: it neither panics nor defers. -/
theorem wpN_of_wp {o : Oper} {a : Act} {w : World} {K : Act → World → Prop} (hh : o.wp P a w (fun a' w' => a'.defers = a.defers ∧ K a' w') (fun _ _ _ => False)) : wpN P o a w K := by
  unfold wpN
  unfold Oper.wp at hh
  generalize (execOp a.eval o).run P w = r at *
  cases r with
  | ok n w' =>
    cases n <;> simp only [uponN] <;> simp only [Oper.upon] at hh
    case value v => exact hh.2
    case skip => exact hh.2
    case enter f args =>
      exact hh.mono fun e w'' hk => by
        cases e with
        | returned v => exact ⟨v, rfl, hk.2⟩
        | panicked c => exact hk.elim
        | outgrown => obtain ⟨_, _, hk⟩ := hk; exact hk.elim
    case row row args => exact hh.mono fun v w'' hk => hk.2
    case defer d =>
      have := hh.1
      cases hd : o.dst <;> simp [Act.put, hd] at this
  | halt x w' => cases x <;> simp only [Oper.upon] at hh

/-! ### All orders -/
def mvOp (P : Program) (ops : Array Oper) (i : Nat) (K : Act → World → Prop) (a : Act) (w : World) : Prop :=
  match ops[i]? with
  | none => K a w
  | some o => if Region.wanted o (yielded ops a.tmps) then wpN P o a w K else K (a.put o.dst undef) w
theorem mvOp_mono {i : Nat} {a : Act} {w : World} {K K' : Act → World → Prop} (h : ∀ a w, K a w → K' a w) (hh : mvOp P ops i K a w) : mvOp P ops i K' a w := by
  unfold mvOp at *
  split
  · exact h _ _ (by simpa [*] using hh)
  · rename_i o ho
    simp only [ho] at hh
    split
    · rename_i hw; simp only [hw, if_true] at hh; exact wpN_mono (fun _ _ hk => h _ _ hk) hh
    · rename_i hw; simp only [hw] at hh; exact h _ _ hh
theorem mvOp_some {i : Nat} {o : Oper} {a : Act} {w : World} {K : Act → World → Prop} (hi : ops[i]? = some o) (hh : mvOp P ops i K a w) : ∃ u w', K (a.put o.dst u) w' := by
  unfold mvOp at hh
  simp only [hi] at hh
  split at hh
  · exact wpN_some hh
  · exact ⟨_, _, hh⟩
theorem mvOp_of_eq {i : Nat} {o : Oper} {a b : Act} {w : World} {K K' : Act → World → Prop} (hi : ops[i]? = some o) (he : execOp b.eval o = execOp a.eval o)
    (hw : Region.wanted o (yielded ops b.tmps) = Region.wanted o (yielded ops a.tmps)) (h : ∀ u w', K (a.put o.dst u) w' → K' (b.put o.dst u) w') (hh : mvOp P ops i K a w) : mvOp P ops i K' b w := by
  unfold mvOp at *
  simp only [hi, hw] at *
  split
  · rename_i h1; rw [if_pos h1] at hh; exact wpN_of_eq he h hh
  · rename_i h1; rw [if_neg h1] at hh; exact h _ _ hh
theorem wpOp_of_mvOp {i : Nat} {a : Act} {w : World} {K : Act → World → Prop} {Q : Exit → Act → World → Prop} (hh : mvOp P ops i K a w) : wpOp P ops Q i K a w := by
  unfold mvOp at hh
  unfold wpOp
  split
  · rename_i ho; simpa only [ho] using hh
  · rename_i o ho
    simp only [ho] at hh
    split
    · rename_i hw; simp only [hw, if_true] at hh; exact .inl (wp_of_wpN hh)
    · rename_i hw; rw [if_neg hw] at hh; exact hh

/-- 'fin': the moving operations that come behind all others: behind them nothing is asked of the world. -/
def finC (md : Region.Mode) (ops : Array Oper) (C : World → Prop) (fin : Nat → Bool) (i : Nat) (listed : Array Bool) (w : World) : Prop := if fin i then Region.ready md ops (listed.setIfInBounds i true) = [] else C w
theorem finC_no {fin : Nat → Bool} {i : Nat} {listed listed' : Array Bool} {w : World} (hf : fin i = false) (h : finC md ops C fin i listed w) : finC md ops C fin i listed' w := by
  unfold finC at *
  rw [hf] at h ⊢
  exact h
def wpAnyM (P : Program) (md : Region.Mode) (ops : Array Oper) (C : World → Prop) (mv fin : Nat → Bool) (Q : Act → World → Prop) : Nat → Array Bool → Act → World → Prop
  | 0, listed, a, w => Region.ready md ops listed = [] ∧ Q a w
  | fuel + 1, listed, a, w =>
    (Region.ready md ops listed = [] → Q a w) ∧
    ∀ i ∈ Region.ready md ops listed,
      if mv i then mvOp P ops i (fun a' w' => finC md ops C fin i listed w' ∧ wpAnyM P md ops C mv fin Q fuel (listed.setIfInBounds i true) a' w') a w
      else qOp P ops C i (fun a' => wpAnyM P md ops C mv fin Q fuel (listed.setIfInBounds i true) a' w) a

theorem value_noenter {s : Sem Value} {w w' : World} {f : FuncId} {args : Array Value} (h : (do let x ← s; pure (Next.value x) : Sem Next).run P w = .ok (.enter f args) w') : False := by
  rw [Sem.run_bind] at h
  cases hs : s.run P w with
  | ok x w1 => rw [hs] at h; simp at h
  | halt x w1 => rw [hs] at h; simp at h
theorem unit_noenter {s : Sem Unit} {w w' : World} {f : FuncId} {args : Array Value} (h : (do s; pure Next.skip : Sem Next).run P w = .ok (.enter f args) w') : False := by
  rw [Sem.run_bind] at h
  cases hs : s.run P w with
  | ok x w1 => rw [hs] at h; simp at h
  | halt x w1 => rw [hs] at h; simp at h
/-- an operation that never enters a function -/
def calm (o : Oper) : Bool :=
  match o.op with
  | .call { callee := .builtin .len, .. } | .call { callee := .builtin .cap, .. } | .call { callee := .builtin .min, .. } | .call { callee := .builtin .max, .. } => true
  | .move _ | .assign _ | .pick .. | .load .. | .nilCheck _ | .binOp .. | .unOp .. | .convert .. | .fieldAddr .. | .field .. | .indexAddr .. | .index .. | .extract .. | .slice .. | .makeFunc .. => true
  | _ => false
theorem calm_noenter {o : Oper} {ρ : Operand → Value} {w w' : World} {f : FuncId} {args : Array Value} (hc : calm o = true) (h : (execOp ρ o).run P w = .ok (.enter f args) w') : False := by
  unfold calm at hc
  cases hop : o.op <;> simp only [hop, Bool.false_eq_true] at hc <;> simp only [execOp, hop] at h
  case move x => simp at h
  case assign x => simp at h
  case pick c x y =>
    rw [Sem.run_bind] at h
    cases hs : (asBool (ρ c)).run P w with
    | ok x w1 => rw [hs] at h; simp at h
    | halt x w1 => rw [hs] at h; simp at h
  case nilCheck x =>
    split at h
    all_goals first
      | (simp at h; done)
      | (simp [runtimePanic] at h; done)
      | skip
    all_goals (try split at h)
    all_goals first
      | (simp at h; done)
      | (simp [runtimePanic] at h; done)
      | skip
    rename_i t0 w0 _
    rw [Sem.run_bind] at h
    cases hp : (program).run P w with
    | halt y w1 => rw [hp] at h; simp at h
    | ok y w1 =>
      rw [hp] at h
      simp only [Result.andThen_ok] at h
      rw [Sem.run_bind] at h
      cases hs : (nilAhead (y.types.size + Made.depth) t0 w0 _).run P w1 with
      | halt y w2 => rw [hs] at h; simp at h
      | ok y w2 =>
        rw [hs] at h
        simp only [Result.andThen_ok] at h
        split at h
        · rw [Sem.run_bind] at h
          simp [unsupported] at h
        · simp at h
  case call c =>
    obtain ⟨callee, args', ats⟩ := c
    cases callee with
    | builtin b =>
      simp only [resolve, Sem.run_bind, Sem.run_pure, Result.andThen_ok, invoke, builtin] at h
      cases b <;> simp only [Bool.false_eq_true] at hc <;> exact value_noenter h
    | value f => simp at hc
    | invoke r n => simp at hc
  all_goals exact value_noenter h

/-- a steady operation's value, in a world of the class: the world stays. -/
theorem quiet_calm {o : Oper} {a : Act} {w : World} {v : Value} (hc : calm o = true) (h : o.quietAt P a C w v) :
    (execOp a.eval o).run P w = .ok (.value v) w ∨ ((execOp a.eval o).run P w = .ok .skip w ∧ v = undef) := by
  unfold Oper.quietAt at h
  generalize hr : (execOp a.eval o).run P w = r at h
  cases r with
  | ok n w' =>
    cases n <;> simp only [Oper.quietUpon] at h
    case value u => obtain ⟨rfl, rfl⟩ := h; exact .inl rfl
    case skip => obtain ⟨rfl, rfl⟩ := h; exact .inr ⟨rfl, rfl⟩
    case enter f args => exact (calm_noenter hc hr).elim
  | halt x w' => simp only [Oper.quietUpon] at h
theorem quiet_det {o : Oper} {a : Act} {w : World} {v u : Value} (hc : calm o = true) (h : o.quietAt P a C w v) (k : o.quietAt P a C w u) : v = u := by
  rcases quiet_calm hc h with h1 | ⟨h1, h2⟩ <;> rcases quiet_calm hc k with k1 | ⟨k1, k2⟩ <;> rw [h1] at k1 <;> simp_all
theorem yields_det {o : Oper} {a : Act} {w : World} {v u : Value} (hw : C w) (hc : calm o = true) (h : YieldsIn P ops C o v a) (k : YieldsIn P ops C o u a) : v = u := by
  rcases h with ⟨h1, h2⟩ | ⟨h1, rfl⟩ <;> rcases k with ⟨k1, k2⟩ | ⟨k1, rfl⟩
  · exact quiet_det hc (h2 w hw) (k2 w hw)
  · rw [h1] at k1; cases k1
  · rw [h1] at k1; cases k1
  · rfl

/-- Which operations come behind k by the region's own edges. -/
def reachL (md : Region.Mode) (k : Nat) : List Oper → Nat → Array Bool → Array Bool
  | [], _, acc => acc
  | o :: r, i, acc => reachL md k r (i + 1) (acc.push (i == k || o.after.any fun e => Region.binds md e && acc.getD e.on false))
def ReachOk (md : Region.Mode) (ops : Array Oper) (k : Nat) (acc : Array Bool) : Prop :=
  ∀ j, acc.getD j false = true → j = k ∨ ∃ o, ops[j]? = some o ∧ ∃ e ∈ o.after, Region.binds md e = true ∧ e.on < j ∧ acc.getD e.on false = true
theorem reachL_ok (k : Nat) : ∀ (l : List Oper) (i : Nat) (acc : Array Bool), acc.size = i → (∀ j, l[j]? = ops[i + j]?) → ReachOk md ops k acc → ReachOk md ops k (reachL md k l i acc)
  | [], _, _, _, _, h => h
  | o :: r, i, acc, hs, hl, h => by
    refine reachL_ok k r (i + 1) _ (by simp [hs]) (fun j => by have := hl (j + 1); simpa [Nat.add_assoc, Nat.add_comm 1 j] using this) ?_
    have old : ∀ j, j < i → ∀ x, (acc.push x).getD j false = acc.getD j false := fun j hj x => by
      simp [Array.getElem?_push, hs, show j ≠ i by omega]
    have lt : ∀ j, acc.getD j false = true → j < i := fun j hj => by
      rcases Nat.lt_or_ge j acc.size with h' | h'
      · omega
      · simp [Array.getElem?_eq_none h'] at hj
    intro j hj
    rcases Nat.lt_trichotomy j i with hlt | rfl | hgt
    · rw [old j hlt] at hj
      rcases h j hj with h1 | ⟨o', ho, e, he, hb, hlt', hr⟩
      · exact .inl h1
      · exact .inr ⟨o', ho, e, he, hb, hlt', by rw [old _ (by omega)]; exact hr⟩
    · have e1 : ∀ x, (acc.push x).getD acc.size false = x := fun x => by simp
      rw [← hs, e1, Bool.or_eq_true, beq_iff_eq, Array.any_eq_true'] at hj
      rw [← hs]
      rcases hj with hj | ⟨e, he, hbr⟩
      · exact .inl hj
      · rw [Bool.and_eq_true] at hbr
        obtain ⟨hb, hr'⟩ := hbr
        have := lt _ hr'
        exact .inr ⟨o, by rw [hs]; simpa using (hl 0).symm, e, he, hb, by omega, by rw [old _ this]; exact hr'⟩
    · have e2 : ∀ x, (acc.push x).getD j false = false := fun x => by
        have : (acc.push x)[j]? = none := Array.getElem?_eq_none (by simp; omega)
        simp [this]
      rw [e2] at hj
      cases hj
theorem reach_ok (k : Nat) : ReachOk md ops k (reachL md k ops.toList 0 #[]) :=
  reachL_ok k ops.toList 0 #[] rfl (by simp) (fun j hj => by simp at hj)

/-- what has come up has all come up that it waits for. -/
def Closed (md : Region.Mode) (ops : Array Oper) (listed : Array Bool) : Prop :=
  ∀ j o, ops[j]? = some o → listed.getD j false = true → ∀ e ∈ o.after, Region.binds md e = true → listed.getD e.on false = true
theorem getD_true {listed : Array Bool} {j : Nat} (h : listed.getD j false = true) : listed.getD j true = true := by
  rcases Nat.lt_or_ge j listed.size with h' | h'
  · simp [h'] at h ⊢; exact h
  · simp [Array.getElem?_eq_none h'] at h
theorem Closed.step {listed : Array Bool} {i : Nat} (h : Closed md ops listed) (hi : i ∈ Region.ready md ops listed) : Closed md ops (listed.setIfInBounds i true) := by
  intro j o ho hj e he hb
  by_cases hji : j = i
  · subst hji
    obtain ⟨_, o', ho', hall⟩ := mem_ready.1 hi
    rw [ho] at ho'
    cases ho'
    exact getD_set_true (hall e he hb)
  · rw [getD_set_ne false (Ne.symm hji)] at hj
    exact getD_set_true (h j o ho hj e he hb)
theorem reach_listed {acc listed : Array Bool} {k : Nat} (hr : ReachOk md ops k acc) (hc : Closed md ops listed) : ∀ n j, j < n → acc.getD j false = true → j ≠ k →
    (∀ o, ops[j]? = some o → ∀ e ∈ o.after, Region.binds md e = true → listed.getD e.on false = true) → listed.getD k false = true := by
  intro n
  induction n with
  | zero => intro j hj; omega
  | succ n ih =>
    intro j hj hacc hne hall
    rcases hr j hacc with h | ⟨o, ho, e, he, hb, hlt, hacc'⟩
    · exact absurd h hne
    · have hl := hall o ho e he hb
      by_cases hk : e.on = k
      · rw [← hk]; exact hl
      · exact ih e.on (by omega) hacc' hk (fun o' ho' e' he' hb' => hc e.on o' ho' hl e' he' hb')

theorem notOn {i : Nat} {listed : Array Bool} {oj : Oper} (hr : i ∈ Region.ready md ops listed) (hall : ∀ e ∈ oj.after, Region.binds md e = true → listed.getD e.on false = true) : ∀ e ∈ oj.after, Region.binds md e = true → e.on ≠ i :=
  fun e he hb heq => by
    have h1 := hall e he hb
    have h0 := (mem_ready.1 hr).1
    rw [heq] at h1
    rw [getD_true h1] at h0
    cases h0
theorem free_step {i j : Nat} {oi : Oper} {listed : Array Bool} (hjun : listed.getD j true = false)
    (hfree : ∀ k ok, ops[k]? = some ok → k ≠ i → listed.getD k true = false → (∀ e ∈ ok.after, Region.binds md e = true → e.on ≠ i) → oi.apart ops ok = true) :
    ∀ k ok, ops[k]? = some ok → k ≠ i → (listed.setIfInBounds j true).getD k true = false → (∀ e ∈ ok.after, Region.binds md e = true → e.on ≠ i) → oi.apart ops ok = true := fun k ok hk hki hun hno => by
  refine hfree k ok hk hki ?_ hno
  by_cases hjk : j = k
  · subst hjk; exact hjun
  · rw [getD_set_ne true hjk] at hun; exact hun

def FinOk (md : Region.Mode) (ops : Array Oper) (fin : Nat → Bool) : Prop := ∀ i j, fin j = true → i < ops.size → i ≠ j → (reachL md i ops.toList 0 #[]).getD j false = true
theorem fin_last {fin : Nat → Bool} {listed : Array Bool} {i j : Nat} (hF : FinOk md ops fin) (hcl : Closed md ops listed) (hi : i ∈ Region.ready md ops listed) (hj : j ∈ Region.ready md ops listed) (hij : i ≠ j) : fin j = false := by
  cases hfj : fin j with
  | false => rfl
  | true =>
    obtain ⟨hiun, oi, hoi, _⟩ := mem_ready.1 hi
    obtain ⟨_, oj, hoj, hall⟩ := mem_ready.1 hj
    have hr := hF i j hfj (Array.getElem?_eq_some_iff.1 hoi).1 hij
    have := reach_listed (reach_ok (md := md) (ops := ops) i) hcl (j + 1) j (by omega) hr (Ne.symm hij) (fun o ho e he hb => by rw [hoj] at ho; cases ho; exact hall e he hb)
    rw [getD_true this] at hiun
    cases hiun

/-- A steady operation that may come up now may be taken first. -/
theorem anyM_steady {mv fin : Nat → Bool} (hF : FinOk md ops fin) {Q : Act → World → Prop} {i : Nat} {oi : Oper} {v : Value} (hi : ops[i]? = some oi) (hmi : mv i = false) (hsel : ∀ (j : Nat) (o : Oper) cs b, ops[j]? = some o → o.op ≠ .select cs b) :
    ∀ (fuel : Nat) (listed : Array Bool) (a : Act) (w : World),
      (∀ j oj, ops[j]? = some oj → j ≠ i → listed.getD j true = false → (∀ e ∈ oj.after, Region.binds md e = true → e.on ≠ i) → oi.apart ops oj = true) →
      Closed md ops listed → i ∈ Region.ready md ops listed → YieldsIn P ops C oi v a →
      wpAnyM P md ops C mv fin Q fuel (listed.setIfInBounds i true) (a.put oi.dst v) w → wpAnyM P md ops C mv fin Q (fuel + 1) listed a w := by
  intro fuel
  induction fuel with
  | zero =>
    intro listed a w _ _ hr hy H
    refine ⟨fun h => (by rw [h] at hr; cases hr), fun j hj => ?_⟩
    by_cases hji : j = i
    · subst hji; rw [hmi, if_neg Bool.false_ne_true]; exact hy.qOp hi H
    · have := ready_mono hj hji
      rw [H.1] at this
      cases this
  | succ fuel ih =>
    intro listed a w hfree hcl hr hy H
    refine ⟨fun h => (by rw [h] at hr; cases hr), fun j hj => ?_⟩
    by_cases hji : j = i
    · subst hji; rw [hmi, if_neg Bool.false_ne_true]; exact hy.qOp hi H
    · have h1 := H.2 j (ready_mono hj hji)
      obtain ⟨hjun, oj, hoj, hall⟩ := mem_ready.1 hj
      have hap := hfree j oj hoj hji hjun (notOn hr hall)
      obtain ⟨p1, p2, p3⟩ := Oper.apart_spec hap
      have hfree' := free_step (md := md) (ops := ops) (oi := oi) hjun hfree
      have keep : ∀ u, YieldsIn P ops C oi v (a.put oj.dst u) := fun u =>
        hy.of_same (execOp_put oi (fun cs b => hsel i oi cs b hi) a oj.dst u p3) (wanted_put oi a oj.dst u p3)
      cases hmj : mv j
      · rw [hmj, if_neg Bool.false_ne_true] at h1
        rw [if_neg Bool.false_ne_true]
        have h2 := qOp_put hoj hap (fun cs b => hsel i oi cs b hi) (fun cs b => hsel j oj cs b hoj) hy h1
        refine qOp_mono (fun a' h3 => ih (listed.setIfInBounds j true) a' w hfree' (hcl.step hj) (ready_mono hr (Ne.symm hji)) h3.1 ?_) h2
        rw [Array.setIfInBounds_comm _ _ hji]
        exact h3.2
      · rw [hmj, if_pos rfl] at h1
        rw [if_pos rfl]
        refine mvOp_of_eq hoj (execOp_put oj (fun cs b => hsel j oj cs b hoj) a oi.dst v p1).symm (wanted_put oj a oi.dst v p1).symm (fun u w' hk => ⟨finC_no (fin_last hF hcl hr hj (Ne.symm hji)) hk.1, ?_⟩) h1
        refine ih (listed.setIfInBounds j true) (a.put oj.dst u) w' hfree' (hcl.step hj) (ready_mono hr (Ne.symm hji)) (keep u) ?_
        rw [Array.setIfInBounds_comm _ _ hji, ← Act.put_comm a v u p2]
        exact hk.2

/-- A moving operation, the first of those that are left, may be taken first. -/
theorem anyM_moving {mv fin : Nat → Bool} (hF : FinOk md ops fin) {Q : Act → World → Prop} {i : Nat} {oi : Oper} (hi : ops[i]? = some oi) (hmi : mv i = true) (hsel : ∀ (j : Nat) (o : Oper) cs b, ops[j]? = some o → o.op ≠ .select cs b)
    (hcalm : ∀ j o, ops[j]? = some o → mv j = false → calm o = true) (hreach : ∀ j, i < j → j < ops.size → mv j = true → (reachL md i ops.toList 0 #[]).getD j false = true) :
    ∀ (fuel : Nat) (listed : Array Bool) (a : Act) (w : World),
      (∀ j oj, ops[j]? = some oj → j ≠ i → listed.getD j true = false → (∀ e ∈ oj.after, Region.binds md e = true → e.on ≠ i) → oi.apart ops oj = true) →
      Closed md ops listed → (∀ j, j < i → listed.getD j true = true) → i ∈ Region.ready md ops listed → C w →
      mvOp P ops i (fun a' w' => finC md ops C fin i listed w' ∧ wpAnyM P md ops C mv fin Q fuel (listed.setIfInBounds i true) a' w') a w → wpAnyM P md ops C mv fin Q (fuel + 1) listed a w := by
  intro fuel
  induction fuel with
  | zero =>
    intro listed a w _ _ _ hr _ H
    refine ⟨fun h => (by rw [h] at hr; cases hr), fun j hj => ?_⟩
    by_cases hji : j = i
    · subst hji; rw [hmi, if_pos rfl]; exact H
    · obtain ⟨u, w', _, hk⟩ := mvOp_some hi H
      have := ready_mono hj hji
      rw [hk.1] at this
      cases this
  | succ fuel ih =>
    intro listed a w hfree hcl hlow hr hw H
    refine ⟨fun h => (by rw [h] at hr; cases hr), fun j hj => ?_⟩
    by_cases hji : j = i
    · subst hji; rw [hmi, if_pos rfl]; exact H
    · obtain ⟨hjun, oj, hoj, hall⟩ := mem_ready.1 hj
      have hjsz : j < ops.size := (Array.getElem?_eq_some_iff.1 hoj).1
      have hij : i < j := by
        rcases Nat.lt_or_ge j i with h | h
        · rw [hlow j h] at hjun; cases hjun
        · omega
      have hmj : mv j = false := by
        cases hmj : mv j with
        | false => rfl
        | true =>
          have := reach_listed (reach_ok (md := md) (ops := ops) i) hcl (j + 1) j (by omega) (hreach j hij hjsz hmj) (by omega) (fun o ho e he hb => by rw [hoj] at ho; cases ho; exact hall e he hb)
          have h0 := (mem_ready.1 hr).1
          rw [getD_true this] at h0
          cases h0
      have hap := hfree j oj hoj hji hjun (notOn hr hall)
      obtain ⟨p1, p2, p3⟩ := Oper.apart_spec hap
      have hsi : ∀ cs b, oi.op ≠ .select cs b := fun cs b => hsel i oi cs b hi
      have hsj : ∀ cs b, oj.op ≠ .select cs b := fun cs b => hsel j oj cs b hoj
      have hr' := ready_mono hj hji
      have move : ∀ u v, YieldsIn P ops C oj v (a.put oi.dst u) → YieldsIn P ops C oj v a := fun u v h =>
        h.of_same (execOp_put oj hsj a oi.dst u p1).symm (wanted_put oj a oi.dst u p1).symm
      obtain ⟨u0, w0, _, hk0⟩ := mvOp_some hi H
      have hq := hk0.2 j hr'
      rw [hmj, if_neg Bool.false_ne_true] at hq
      obtain ⟨v, hy, _⟩ := yieldsIn_of_qOp hoj hq
      have hya := move _ _ hy
      rw [hmj, if_neg Bool.false_ne_true]
      refine hya.qOp hoj ?_
      refine ih (listed.setIfInBounds j true) (a.put oj.dst v) w (free_step (md := md) (ops := ops) (oi := oi) hjun hfree) (hcl.step hj) (fun k hk => ?_) (ready_mono hr (Ne.symm hji)) hw ?_
      · by_cases hkj : j = k
        · omega
        · rw [getD_set_ne true hkj]; exact hlow k hk
      · refine mvOp_of_eq hi (execOp_put oi hsi a oj.dst v p3) (wanted_put oi a oj.dst v p3) (fun u w' hk => ⟨finC_no (fin_last hF hcl hj hr hji) hk.1, ?_⟩) H
        have hq' := hk.2.2 j hr'
        rw [hmj, if_neg Bool.false_ne_true] at hq'
        obtain ⟨v', hy', hk'⟩ := yieldsIn_of_qOp hoj hq'
        have := yields_det hw (hcalm j oj hoj hmj) hya (move _ _ hy')
        subst this
        rw [Array.setIfInBounds_comm _ _ hji, Act.put_comm a v u (fun d hd h => p2 d h hd)]
        exact hk'

/-! ### The walk in the text's order -/
def wpMix (P : Program) (ops : Array Oper) (C : World → Prop) (mv fin : Nat → Bool) (Q : Act → World → Prop) : List Oper → Nat → Act → World → Prop
  | [], _, a, w => Q a w
  | o :: r, k, a, w => if Region.wanted o (yielded ops a.tmps) then (if mv k then wpN P o a w (fun a' w' => (fin k = false → C w') ∧ wpMix P ops C mv fin Q r (k + 1) a' w') else o.quiet P a C (fun a' => wpMix P ops C mv fin Q r (k + 1) a' w)) else wpMix P ops C mv fin Q r (k + 1) (a.put o.dst undef) w
def mixFrom (md : Region.Mode) (ops : Array Oper) (mv : Nat → Bool) : Nat → Nat → Array Bool → Bool
  | 0, _, listed => (Region.ready md ops listed).isEmpty
  | fuel + 1, k, listed => (Region.ready md ops listed).contains k && Region.free md ops listed k &&
      (!mv k || (List.range ops.size).all fun j => !(decide (k < j) && mv j) || (reachL md k ops.toList 0 #[]).getD j false) && mixFrom md ops mv fuel (k + 1) (listed.setIfInBounds k true)
def mixB (ops : Array Oper) (mv : Nat → Bool) : Bool :=
  Region.noSelect ops && ((List.range ops.size).all fun j => mv j || (ops[j]?).all calm) && mixFrom .any ops mv ops.size 0 (Array.replicate ops.size false)
theorem anyM_lex {mv fin : Nat → Bool} (hF : FinOk md ops fin) (hlast : ∀ k, fin k = true → k + 1 = ops.size) {Q : Act → World → Prop} (hs : Region.noSelect ops = true) (hcalm : ∀ j o, ops[j]? = some o → mv j = false → calm o = true) : ∀ (l : List Oper) (k : Nat) (listed : Array Bool) (a : Act) (w : World), (∀ j, l[j]? = ops[k + j]?) →
    mixFrom md ops mv l.length k listed = true → Closed md ops listed → (∀ j, j < k → listed.getD j true = true) → (l ≠ [] → C w) → wpMix P ops C mv fin Q l k a w → wpAnyM P md ops C mv fin Q l.length listed a w
  | [], _, _, _, _, _, hB, _, _, _, h => ⟨by simpa [mixFrom] using hB, h⟩
  | o :: l, k, listed, a, w, hl, hB, hcl, hlow, hw', h => by
    have hw : C w := hw' (by simp)
    have h0 : ops[k]? = some o := by simpa using (hl 0).symm
    simp only [List.length_cons, mixFrom, Bool.and_eq_true] at hB
    obtain ⟨⟨⟨hr, hf⟩, hm⟩, hB'⟩ := hB
    have hr' : k ∈ Region.ready md ops listed := by simpa using hr
    have hl' : ∀ j, l[j]? = ops[k + 1 + j]? := fun j => by have := hl (j + 1); simpa [Nat.add_assoc, Nat.add_comm 1 j] using this
    have hlow' : ∀ j, j < k + 1 → (listed.setIfInBounds k true).getD j true = true := fun j hj => by
      by_cases hjk : k = j
      · subst hjk
        by_cases hks : k < listed.size <;> simp [hks]
      · rw [getD_set_ne true hjk]; exact hlow j (by omega)
    unfold wpMix at h
    cases hmk : mv k with
    | false =>
      have hst : qOp P ops C k (fun a' => wpMix P ops C mv fin Q l (k + 1) a' w) a := by
        unfold qOp
        simp only [h0]
        simp only [hmk, Bool.false_eq_true, if_false] at h
        exact h
      obtain ⟨v, hy, hK⟩ := yieldsIn_of_qOp h0 hst
      exact anyM_steady hF h0 hmk (Region.noSelect_spec hs) l.length listed a w (Region.free_spec h0 hf) hcl hr' hy
        (anyM_lex hF hlast hs hcalm l (k + 1) _ _ w hl' hB' (hcl.step hr') hlow' (fun _ => hw) hK)
    | true =>
      have hmvo : mvOp P ops k (fun a' w' => (fin k = false → C w') ∧ wpMix P ops C mv fin Q l (k + 1) a' w') a w := by
        unfold mvOp
        simp only [h0]
        simp only [hmk, if_true] at h
        split
        · rename_i hwd; rw [if_pos hwd] at h; exact h
        · rename_i hwd; rw [if_neg hwd] at h; exact ⟨fun _ => hw, h⟩
      simp only [hmk, Bool.not_true, Bool.false_or, List.all_eq_true, List.mem_range] at hm
      refine anyM_moving hF h0 hmk (Region.noSelect_spec hs) hcalm (fun j hkj hjs hmj => ?_) l.length listed a w (Region.free_spec h0 hf) hcl hlow hr' hw
        (mvOp_mono (fun a' w' hk => by
          cases hfk : fin k with
          | false => exact ⟨by unfold finC; rw [hfk]; exact hk.1 hfk, anyM_lex hF hlast hs hcalm l (k + 1) _ _ w' hl' hB' (hcl.step hr') hlow' (fun _ => hk.1 hfk) hk.2⟩
          | true =>
            have hsz := hlast k hfk
            have hnil : l = [] := by
              cases l with
              | nil => rfl
              | cons o' l' =>
                exfalso
                have := hl' 0
                rw [List.getElem?_cons_zero] at this
                have := (Array.getElem?_eq_some_iff.1 this.symm).1
                omega
            refine ⟨?_, anyM_lex hF hlast hs hcalm l (k + 1) _ _ w' hl' hB' (hcl.step hr') hlow' (fun h => absurd hnil h) hk.2⟩
            unfold finC
            rw [hfk, if_pos rfl]
            subst hnil
            simpa [mixFrom] using hB') hmvo)
      have := hm j hjs
      simp only [hkj, decide_true, hmj, Bool.and_true, Bool.not_true, Bool.false_or] at this
      exact this
theorem wpAny_ready {Q : Exit → Act → World → Prop} {listed : Array Bool} {a : Act} {w : World} (hr : Region.ready md ops listed = []) (hQ : Q .normal a w) : ∀ fuel, wpAny P md ops Q fuel listed a w
  | 0 => ⟨hr, hQ⟩
  | fuel + 1 => ⟨fun _ => hQ, fun i hi => by rw [hr] at hi; cases hi⟩
theorem anyM_ready {mv fin : Nat → Bool} {Q : Act → World → Prop} {listed : Array Bool} {a : Act} {w : World} (hr : Region.ready md ops listed = []) : ∀ fuel, wpAnyM P md ops C mv fin Q fuel listed a w → Q a w
  | 0, h => h.2
  | _ + 1, h => h.1 hr
theorem wpAny_of_M {mv fin : Nat → Bool} {Q : Act → World → Prop} {Q' : Exit → Act → World → Prop} (hcalm : ∀ j o, ops[j]? = some o → mv j = false → calm o = true) (hQ : ∀ a w, Q a w → Q' .normal a w) : ∀ (fuel : Nat) (listed : Array Bool) (a : Act) (w : World), C w →
    wpAnyM P md ops C mv fin Q fuel listed a w → wpAny P md ops Q' fuel listed a w
  | 0, _, _, _, _, h => ⟨h.1, hQ _ _ h.2⟩
  | fuel + 1, listed, a, w, hw, h => ⟨fun h0 => hQ _ _ (h.1 h0), fun i hi => by
      have h1 := h.2 i hi
      split at h1
      · exact wpOp_of_mvOp (mvOp_mono (fun a' w' hk => by
          have h1 := hk.1
          unfold finC at h1
          cases hfi : fin i with
          | false => rw [hfi] at h1; exact wpAny_of_M hcalm hQ fuel _ a' w' h1 hk.2
          | true => rw [hfi, if_pos rfl] at h1; exact wpAny_ready h1 (hQ _ _ (anyM_ready h1 fuel hk.2)) fuel) h1)
      · rename_i hmi
        unfold qOp at h1
        unfold wpOp
        split
        · rename_i ho; simp only [ho] at h1; exact wpAny_of_M hcalm hQ fuel _ _ _ hw h1
        · rename_i o ho
          simp only [ho] at h1
          split
          · rename_i hwd
            rw [if_pos hwd] at h1
            obtain ⟨v, hv, hk⟩ := h1
            refine .inl ?_
            unfold Oper.wp
            rcases quiet_calm (hcalm _ o ho (by simpa using hmi)) (hv w hw) with hr | ⟨hr, rfl⟩ <;> rw [hr] <;> exact wpAny_of_M hcalm hQ fuel _ _ _ hw hk
          · rename_i hwd; rw [if_neg hwd] at h1; exact wpAny_of_M hcalm hQ fuel _ _ _ hw h1⟩

theorem wp_region_mix0 {id : Nat} {Q : Exit → Act → World → Prop} {a : Act} {w : World} {mv fin : Nat → Bool} (hF : FinOk .any ops fin) (hlast : ∀ k, fin k = true → k + 1 = ops.size) (hm : P.follows .mixedOrders = true) (hB : mixB ops mv = true) (hC : C w.drew)
    (h : wpMix P ops C mv fin (fun a' w' => Q .normal a' w') ops.toList 0 a w.drew) : (Code.region id ops true).wp P Q a w := by
  simp only [mixB, Bool.and_eq_true, List.all_eq_true, List.mem_range] at hB
  obtain ⟨⟨h1, h2⟩, h3⟩ := hB
  have hcalm : ∀ j o, ops[j]? = some o → mv j = false → calm o = true := fun j o ho hmj => by
    have := h2 j (Array.getElem?_eq_some_iff.1 ho).1
    simpa [hmj, ho] using this
  refine wp_region_any hm (wpAny_of_M (fin := fin) hcalm (Q := fun a' w' => Q .normal a' w') (fun _ _ h => h) _ _ _ _ hC ?_)
  have := anyM_lex (C := C) (md := .any) hF hlast h1 hcalm ops.toList 0 (Array.replicate ops.size false) a w.drew (by simp) (by simpa using h3)
    (fun j o _ hj => by
      exfalso
      by_cases hjs : j < ops.size
      · simp [hjs] at hj
      · simp [hjs] at hj) (fun j hj => by omega) (fun _ => hC) h
  simpa using this

/-! ### In segments: n steady operations, a moving one, and so on -/
def wpHead (P : Program) (ops : Array Oper) (C : World → Prop) (last : Bool) (K : List Oper → Act → World → Prop) : List Oper → Act → World → Prop
  | [], _, _ => False
  | m :: r, a, w => if Region.wanted m (yielded ops a.tmps) then wpN P m a w (fun a' w' => ((last = false ∨ r ≠ []) → C w') ∧ K r a' w') else K r (a.put m.dst undef) w
def wpSegs (P : Program) (ops : Array Oper) (C : World → Prop) (last : Bool) (Q : Act → World → Prop) : List Nat → List Oper → Act → World → Prop
  | [], l, a, w => wpQuiet P ops C (fun a' => Q a' w) l a
  | n :: ns, l, a, w => wpQuiet P ops C (fun a' => wpHead P ops C last (wpSegs P ops C last Q ns) (l.drop n) a' w) (l.take n) a
def mvOf : List Nat → Nat → Bool
  | [], _ => false
  | n :: ns, k => k == n || (decide (n < k) && mvOf ns (k - (n + 1)))
theorem wpQuiet_mono {Q Q' : Act → Prop} (h : ∀ a, Q a → Q' a) : ∀ (l : List Oper) (a : Act), wpQuiet P ops C Q l a → wpQuiet P ops C Q' l a
  | [], _, hh => h _ hh
  | o :: r, a, hh => by
    unfold wpQuiet at *
    split
    · rename_i hw; rw [if_pos hw] at hh; exact Oper.quiet_mono (fun a' => wpQuiet_mono h r a') hh
    · rename_i hw; rw [if_neg hw] at hh; exact wpQuiet_mono h r _ hh
theorem mix_prefix {mv fin : Nat → Bool} {Q : Act → World → Prop} {r : List Oper} {w : World} : ∀ (s : List Oper) (k : Nat) (a : Act), (∀ j, j < s.length → mv (k + j) = false) →
    wpQuiet P ops C (fun a' => wpMix P ops C mv fin Q r (k + s.length) a' w) s a → wpMix P ops C mv fin Q (s ++ r) k a w
  | [], k, a, _, h => by simpa [wpQuiet] using h
  | o :: s, k, a, hm, h => by
    have h0 : mv k = false := by have := hm 0 (by simp); simpa using this
    have hm' : ∀ j, j < s.length → mv (k + 1 + j) = false := fun j hj => by have := hm (j + 1) (by simp; omega); simpa [Nat.add_assoc, Nat.add_comm 1 j] using this
    have hk : k + 1 + s.length = k + (o :: s).length := by simp; omega
    show wpMix P ops C mv fin Q (o :: (s ++ r)) k a w
    unfold wpMix
    unfold wpQuiet at h
    split
    · rename_i hw
      rw [if_pos hw] at h
      simp only [h0, Bool.false_eq_true, if_false]
      exact Oper.quiet_mono (fun a' h' => mix_prefix s (k + 1) a' hm' (by rw [hk]; exact h')) h
    · rename_i hw
      rw [if_neg hw] at h
      exact mix_prefix s (k + 1) _ hm' (by rw [hk]; exact h)
/-- 'fin' is the last place alone, or none. -/
def finAt (last : Bool) (n k : Nat) : Bool := last && (k + 1 == n)
theorem mix_of_segs {mv : Nat → Bool} {last : Bool} {n0 : Nat} {Q : Act → World → Prop} : ∀ (ns : List Nat) (l : List Oper) (k : Nat) (a : Act) (w : World), k + l.length = n0 → (∀ j, mv (k + j) = mvOf ns j) → wpSegs P ops C last Q ns l a w → wpMix P ops C mv (finAt last n0) Q l k a w
  | [], l, k, a, w, _, hm, h => by
    have := mix_prefix (P := P) (ops := ops) (C := C) (mv := mv) (fin := finAt last n0) (Q := Q) (r := []) (w := w) l k a (fun j _ => by rw [hm]; rfl) (wpQuiet_mono (fun a' h => by unfold wpMix; exact h) l a h)
    simpa using this
  | n :: ns, l, k, a, w, hn0, hm, h => by
    unfold wpSegs at h
    rw [← List.take_append_drop n l]
    refine mix_prefix (l.take n) k a (fun j hj => ?_) (wpQuiet_mono (fun a' h' => ?_) _ _ h)
    · rw [List.length_take] at hj
      rw [hm]
      simp only [mvOf]
      have h1 : (j == n) = false := by simp; omega
      have h2 : decide (n < j) = false := by simp; omega
      simp [h1, h2]
    · generalize hd : l.drop n = d at h'
      cases d with
      | nil => exact h'.elim
      | cons m r =>
        have hlen : (l.take n).length = n := by
          have : (l.drop n).length = l.length - n := List.length_drop
          rw [hd] at this
          simp at this ⊢
          omega
        have hmn : mv (k + (l.take n).length) = true := by rw [hlen, hm]; simp [mvOf]
        have hm' : ∀ j, mv (k + (l.take n).length + 1 + j) = mvOf ns j := fun j => by
          rw [hlen, show k + n + 1 + j = k + (n + 1 + j) by omega, hm]
          simp only [mvOf]
          have h1 : (n + 1 + j == n) = false := by simp; omega
          have h2 : decide (n < n + 1 + j) = true := by simp; omega
          rw [h1, h2, show n + 1 + j - (n + 1) = j by omega]
          simp
        have hlr : l.length = n + (r.length + 1) := by
          have h2 : (l.drop n).length = l.length - n := List.length_drop
          rw [hd] at h2
          rw [List.length_take] at hlen
          simp at h2
          omega
        unfold wpMix
        simp only [wpHead] at h'
        split
        · rename_i hw
          rw [if_pos hw] at h'
          refine wpN_mono (fun u w' hk => ⟨fun hf => hk.1 ?_, mix_of_segs ns r _ _ w' (by omega) hm' hk.2⟩) h'
          simp only [finAt, Bool.and_eq_false_iff] at hf
          rcases hf with hf | hf
          · exact .inl hf
          · refine .inr (fun hr => ?_)
            subst hr
            simp at hf
            simp at hlr
            omega
        · rename_i hw
          rw [if_neg hw] at h'
          exact mix_of_segs ns r _ _ w (by omega) hm' h'
theorem fin_none {n : Nat} : FinOk md ops (finAt false n) := fun i j h => by simp [finAt] at h
/-- the last operation comes behind all others. -/
def lastB (ops : Array Oper) : Bool := (List.range ops.size).all fun i => decide (i + 1 = ops.size) || (reachL .any i ops.toList 0 #[]).getD (ops.size - 1) false
theorem fin_some (h : lastB ops = true) : FinOk .any ops (finAt true ops.size) := fun i j hj hi hij => by
  simp only [finAt, Bool.true_and, beq_iff_eq] at hj
  simp only [lastB, List.all_eq_true, List.mem_range, Bool.or_eq_true, decide_eq_true_eq] at h
  rcases h i hi with h1 | h1
  · omega
  · rw [show j = ops.size - 1 by omega]; exact h1
theorem wp_region_mix {id : Nat} {Q : Exit → Act → World → Prop} {a : Act} {w : World} {l : List Oper} (ns : List Nat) (hm : P.follows .mixedOrders = true) (hB : mixB l.toArray (mvOf ns) = true) (hC : C w.drew)
    (h : wpSegs P l.toArray C false (fun a' w' => Q .normal a' w') ns l a w.drew) : (Code.region id l.toArray true).wp P Q a w :=
  wp_region_mix0 (fin := finAt false l.length) fin_none (fun k h => by simp [finAt] at h) hm hB hC (mix_of_segs ns l 0 a w.drew (by simp) (by simp) h)
theorem wp_region_mixL {id : Nat} {Q : Exit → Act → World → Prop} {a : Act} {w : World} {l : List Oper} (ns : List Nat) (hm : P.follows .mixedOrders = true) (hB : (mixB l.toArray (mvOf ns) && lastB l.toArray) = true) (hC : C w.drew)
    (h : wpSegs P l.toArray C true (fun a' w' => Q .normal a' w') ns l a w.drew) : (Code.region id l.toArray true).wp P Q a w := by
  rw [Bool.and_eq_true] at hB
  exact wp_region_mix0 (fin := finAt true l.toArray.size) (fin_some hB.2) (fun k h => by simpa [finAt] using h) hm hB.1 hC (mix_of_segs ns l 0 a w.drew (by simp) (by simp) h)
/-- the moving operation, in the walk's own form. -/
theorem wpHead_want {last : Bool} {K : List Oper → Act → World → Prop} {m : Oper} {r : List Oper} {a : Act} {w : World} (hw : Region.wanted m (yielded ops a.tmps) = true)
    (h : ∀ K' : Act → World → Prop, (∀ a' w', a'.defers = a.defers → C w' → K r a' w' → K' a' w') → m.wp P a w K' (fun _ _ _ => False)) : wpHead P ops C last K (m :: r) a w := by
  simp only [wpHead]
  rw [if_pos hw]
  exact wpN_of_wp (h _ fun a' w' hd hc hk => ⟨hd, fun _ => hc, hk⟩)
/-- the last one: nothing is asked of the world behind it. -/
theorem wpHead_last {K : List Oper → Act → World → Prop} {m : Oper} {a : Act} {w : World} (hw : Region.wanted m (yielded ops a.tmps) = true)
    (h : ∀ K' : Act → World → Prop, (∀ a' w', a'.defers = a.defers → K [] a' w' → K' a' w') → m.wp P a w K' (fun _ _ _ => False)) : wpHead P ops C true K [m] a w := by
  simp only [wpHead]
  rw [if_pos hw]
  exact wpN_of_wp (h _ fun a' w' hd hk => ⟨hd, fun h => by rcases h with h | h <;> simp at h, hk⟩)
theorem wpHead_skip {last : Bool} {K : List Oper → Act → World → Prop} {m : Oper} {r : List Oper} {a : Act} {w : World} (hw : Region.wanted m (yielded ops a.tmps) = false)
    (h : K r (a.put m.dst undef) w) : wpHead P ops C last K (m :: r) a w := by
  simp only [wpHead]
  rw [if_neg (by rw [hw]; exact Bool.false_ne_true)]
  exact h
end

/-! ### The class: all worlds in which the blocks that were, but those in S, are as they were -/
def graft (S : Nat → Prop) [DecidablePred S] (w x : World) : World :=
  { heap := Array.ofFn (n := max w.heap.size x.heap.size) fun i => if h : i.1 < w.heap.size ∧ ¬ S i.1 then w.heap[i.1]'h.1 else x.heap.getD i.1 default
    tape := w.tape, drawn := x.drawn, os := w.os, output := w.output }
section
variable {S : Nat → Prop} [DecidablePred S] {w x : World}
theorem graft_fr (S : Nat → Prop) [DecidablePred S] (w x : World) : Fr S w (graft S w x) :=
  ⟨rfl, rfl, rfl, by simp [graft]; omega, fun k hk hs => by
    have hm : k < max w.heap.size x.heap.size := by omega
    simp [graft, hm, hk, hs]⟩
theorem fr_graft {w' : World} (h : Fr S w w') : ∃ x, w' = graft S w x := by
  refine ⟨w', ?_⟩
  cases w' with
  | mk heap tape drawn os output =>
    have h1 := h.os; have h2 := h.tape; have h3 := h.output; have h4 := h.size
    simp only at h1 h2 h3 h4
    subst h1 h2 h3
    simp only [graft, World.mk.injEq, and_true]
    have hmx : max w.heap.size heap.size = heap.size := by omega
    apply Array.ext
    · simp; omega
    · intro i hi1 hi2
      simp only [Array.getElem_ofFn]
      split
      · rename_i hc
        have := h.block i hc.1 hc.2
        simp only at this
        rw [Array.getElem?_eq_getElem hi1, Array.getElem?_eq_getElem hc.1] at this
        exact Option.some.inj this
      · simp
@[go_sem] theorem graft_cell {b o : Nat} {s : Option Nat} (hb : b < w.heap.size) (hs : ¬ S b) : (graft S w x).cell? ⟨b, o, s⟩ = w.cell? ⟨b, o, s⟩ := (graft_fr S w x).cell (p := ⟨b, o, s⟩) hb hs
end
/-- the region's walk, at the class of all worlds in which the blocks that were (but those in S) are as they were. -/
theorem wp_region_at {P : Program} {id : Nat} {Q : Exit → Act → World → Prop} {a : Act} {w : World} {l : List Oper} (S : Nat → Prop) [DecidablePred S] (ns : List Nat) (hm : P.follows .mixedOrders = true) (hB : mixB l.toArray (mvOf ns) = true)
    (h : wpSegs P l.toArray (fun w' => ∃ x, w' = graft S w x) false (fun a' w' => Q .normal a' w') ns l a w.drew) : (Code.region id l.toArray true).wp P Q a w :=
  wp_region_mix ns hm hB (fr_graft (Fr.drew (Fr.refl S w))) h
/-- likewise, where the last operation (a moving one: a store, say) comes behind all others: S need not hold what it changes. -/
theorem wp_region_last {P : Program} {id : Nat} {Q : Exit → Act → World → Prop} {a : Act} {w : World} {l : List Oper} (S : Nat → Prop) [DecidablePred S] (ns : List Nat) (hm : P.follows .mixedOrders = true) (hB : (mixB l.toArray (mvOf ns) && lastB l.toArray) = true)
    (h : wpSegs P l.toArray (fun w' => ∃ x, w' = graft S w x) true (fun a' w' => Q .normal a' w') ns l a w.drew) : (Code.region id l.toArray true).wp P Q a w :=
  wp_region_mixL ns hm hB (fr_graft (Fr.drew (Fr.refl S w))) h
end Go.Proofs.YtahjnonkhbpnpaaGreat
/- Regions that draw their order, with fences and barriers. A moving operation is plain (0): the class of worlds stays; a fence (1), if all operations behind it follow it: the class behind it is narrower; a barrier (2), if besides all ahead of it precede it: the class behind it is any. A struct literal is steady too. -/
namespace Go.Proofs.YtahjnonkhbpnpaaGreat
open Go.RowKit
/-- behind a fence: a world of the class C that is like w but for the blocks in S -/
noncomputable def fenG (C : World → Prop) (S : Nat → Prop) [DecidablePred S] (w y : World) : World := open Classical in if C (graft S w y) then graft S w y else w
theorem fenG_fr (C : World → Prop) (S : Nat → Prop) [DecidablePred S] (w y : World) : Fr S w (fenG C S w y) := by
  unfold fenG
  split
  · exact graft_fr S w y
  · exact Fr.refl S w
theorem fenG_in {C : World → Prop} {S : Nat → Prop} [DecidablePred S] {w y : World} (h : C w) : C (fenG C S w y) := by
  unfold fenG
  split
  · assumption
  · exact h
theorem fen_graft {C : World → Prop} {S : Nat → Prop} [DecidablePred S] {w w' : World} (hf : Fr S w w') (h : C w') : ∃ y, w' = fenG C S w y := by
  obtain ⟨y, hy⟩ := fr_graft hf
  refine ⟨y, ?_⟩
  unfold fenG
  rw [if_pos (by rw [← hy]; exact h), ← hy]
@[go_sem] theorem fenG_cell {C : World → Prop} {S : Nat → Prop} [DecidablePred S] {w y : World} {b o : Nat} {s : Option Nat} (hb : b < w.heap.size) (hs : ¬ S b) : (fenG C S w y).cell? ⟨b, o, s⟩ = w.cell? ⟨b, o, s⟩ := (fenG_fr C S w y).cell (p := ⟨b, o, s⟩) hb hs
section
variable {P : Program} {ops : Array Oper} {md : Region.Mode}
/-- the class of worlds behind a moving operation of kind k -/
def Stp (k : Nat) (C C' : World → Prop) : Prop := (k = 0 → C' = C) ∧ (k ≤ 1 → ∀ x, C' x → C x)
theorem Stp.refl (k : Nat) (C : World → Prop) : Stp k C C := ⟨fun _ => rfl, fun _ _ h => h⟩
def calm2 (o : Oper) : Bool := calm o || (match o.op with | .build .. => true | _ => false)
theorem calm2_noenter {o : Oper} {ρ : Operand → Value} {w w' : World} {f : FuncId} {args : Array Value} (hc : calm2 o = true) (h : (execOp ρ o).run P w = .ok (.enter f args) w') : False := by
  unfold calm2 at hc
  rw [Bool.or_eq_true] at hc
  rcases hc with hc | hc
  · exact calm_noenter hc h
  · cases hop : o.op <;> simp only [hop, Bool.false_eq_true] at hc <;> simp only [execOp, hop] at h
    exact value_noenter h
theorem quiet_calm2 {C : World → Prop} {o : Oper} {a : Act} {w : World} {v : Value} (hc : calm2 o = true) (h : o.quietAt P a C w v) :
    (execOp a.eval o).run P w = .ok (.value v) w ∨ ((execOp a.eval o).run P w = .ok .skip w ∧ v = undef) := by
  unfold Oper.quietAt at h
  generalize hr : (execOp a.eval o).run P w = r at h
  cases r with
  | ok n w' =>
    cases n <;> simp only [Oper.quietUpon] at h
    case value u => obtain ⟨rfl, rfl⟩ := h; exact .inl rfl
    case skip => obtain ⟨rfl, rfl⟩ := h; exact .inr ⟨rfl, rfl⟩
    case enter f args => exact (calm2_noenter hc hr).elim
  | halt x w' => simp only [Oper.quietUpon] at h
theorem quiet_det2 {C : World → Prop} {o : Oper} {a : Act} {w : World} {v u : Value} (hc : calm2 o = true) (h : o.quietAt P a C w v) (k : o.quietAt P a C w u) : v = u := by
  rcases quiet_calm2 hc h with h1 | ⟨h1, h2⟩ <;> rcases quiet_calm2 hc k with k1 | ⟨k1, k2⟩ <;> rw [h1] at k1 <;> simp_all
theorem yields_det2 {C : World → Prop} {o : Oper} {a : Act} {w : World} {v u : Value} (hw : C w) (hc : calm2 o = true) (h : YieldsIn P ops C o v a) (k : YieldsIn P ops C o u a) : v = u := by
  rcases h with ⟨h1, h2⟩ | ⟨h1, rfl⟩ <;> rcases k with ⟨k1, k2⟩ | ⟨k1, rfl⟩
  · exact quiet_det2 hc (h2 w hw) (k2 w hw)
  · rw [h1] at k1; cases k1
  · rw [h1] at k1; cases k1
  · rfl
theorem yields_down {C C' : World → Prop} {o : Oper} {a : Act} {v : Value} (hc : calm2 o = true) (hs : ∀ x, C' x → C x) (h : YieldsIn P ops C o v a) : YieldsIn P ops C' o v a := by
  rcases h with ⟨h1, h2⟩ | h
  · refine .inl ⟨h1, fun w hw => ?_⟩
    have := quiet_calm2 hc (h2 w (hs w hw))
    unfold Oper.quietAt
    rcases this with h3 | ⟨h3, rfl⟩ <;> rw [h3]
    · exact ⟨rfl, rfl⟩
    · exact ⟨rfl, rfl⟩
  · exact .inr h
def wpAnyF (P : Program) (md : Region.Mode) (ops : Array Oper) (mv : Nat → Bool) (bar : Nat → Nat) (Q : Act → World → Prop) : Nat → (World → Prop) → Array Bool → Act → World → Prop
  | 0, _, listed, a, w => Region.ready md ops listed = [] ∧ Q a w
  | fuel + 1, C, listed, a, w =>
    (Region.ready md ops listed = [] → Q a w) ∧
    ∀ i ∈ Region.ready md ops listed,
      if mv i then mvOp P ops i (fun a' w' => ∃ C' : World → Prop, Stp (bar i) C C' ∧ C' w' ∧ wpAnyF P md ops mv bar Q fuel C' (listed.setIfInBounds i true) a' w') a w
      else qOp P ops C i (fun a' => wpAnyF P md ops mv bar Q fuel C (listed.setIfInBounds i true) a' w) a
/-- all behind a fence follow it; all ahead of a barrier precede it. -/
def FenOk (md : Region.Mode) (ops : Array Oper) (bar : Nat → Nat) : Prop := ∀ i j, 1 ≤ bar j → i < ops.size → j < ops.size →
  (j < i → (reachL md j ops.toList 0 #[]).getD i false = true) ∧ (i < j → 2 ≤ bar j → (reachL md i ops.toList 0 #[]).getD j false = true)
theorem fen_pair {listed : Array Bool} {i j : Nat} (hcl : Closed md ops listed) (hi : i ∈ Region.ready md ops listed) (hj : j ∈ Region.ready md ops listed) (hij : i ≠ j) : (reachL md i ops.toList 0 #[]).getD j false = false := by
  cases hr : (reachL md i ops.toList 0 #[]).getD j false with
  | false => rfl
  | true =>
    obtain ⟨hiun, oi, hoi, halli⟩ := mem_ready.1 hi
    obtain ⟨hjun, oj, hoj, hall⟩ := mem_ready.1 hj
    have := reach_listed (reach_ok (md := md) (ops := ops) i) hcl (j + 1) j (by omega) hr (Ne.symm hij) (fun o ho e he hb => by rw [hoj] at ho; cases ho; exact hall e he hb)
    rw [getD_true this] at hiun
    cases hiun
theorem ready_lt {listed : Array Bool} {i : Nat} (hi : i ∈ Region.ready md ops listed) : i < ops.size := by
  obtain ⟨_, oi, hoi, _⟩ := mem_ready.1 hi
  exact (Array.getElem?_eq_some_iff.1 hoi).1
theorem fen_bar {bar : Nat → Nat} {listed : Array Bool} {i j : Nat} (hF : FenOk md ops bar) (hcl : Closed md ops listed) (hi : i ∈ Region.ready md ops listed) (hj : j ∈ Region.ready md ops listed) (hij : i ≠ j) : bar j ≤ 1 := by
  rcases Nat.lt_or_ge 1 (bar j) with h | h
  · obtain ⟨h1, h2⟩ := hF i j (by omega) (ready_lt hi) (ready_lt hj)
    rcases Nat.lt_or_ge i j with hlt | hge
    · have := h2 hlt h
      rw [fen_pair hcl hi hj hij] at this
      cases this
    · have := h1 (by omega)
      rw [fen_pair hcl hj hi (Ne.symm hij)] at this
      cases this
  · exact h
theorem fen_plain {bar : Nat → Nat} {listed : Array Bool} {i j : Nat} (hF : FenOk md ops bar) (hcl : Closed md ops listed) (hi : i ∈ Region.ready md ops listed) (hj : j ∈ Region.ready md ops listed) (hij : i < j) : bar i = 0 := by
  rcases Nat.lt_or_ge 0 (bar i) with h | h
  · have := (hF j i h (ready_lt hj) (ready_lt hi)).1 hij
    rw [fen_pair hcl hi hj (by omega)] at this
    cases this
  · omega
theorem anyF_steady {mv : Nat → Bool} {bar : Nat → Nat} (hF : FenOk md ops bar) {Q : Act → World → Prop} {i : Nat} {oi : Oper} {v : Value} (hi : ops[i]? = some oi) (hmi : mv i = false) (hci : calm2 oi = true) (hsel : ∀ (j : Nat) (o : Oper) cs b, ops[j]? = some o → o.op ≠ .select cs b) :
    ∀ (fuel : Nat) (C : World → Prop) (listed : Array Bool) (a : Act) (w : World),
      (∀ j oj, ops[j]? = some oj → j ≠ i → listed.getD j true = false → (∀ e ∈ oj.after, Region.binds md e = true → e.on ≠ i) → oi.apart ops oj = true) →
      Closed md ops listed → i ∈ Region.ready md ops listed → YieldsIn P ops C oi v a →
      wpAnyF P md ops mv bar Q fuel C (listed.setIfInBounds i true) (a.put oi.dst v) w → wpAnyF P md ops mv bar Q (fuel + 1) C listed a w := by
  intro fuel
  induction fuel with
  | zero =>
    intro C listed a w _ _ hr hy H
    refine ⟨fun h => (by rw [h] at hr; cases hr), fun j hj => ?_⟩
    by_cases hji : j = i
    · subst hji; rw [hmi, if_neg Bool.false_ne_true]; exact hy.qOp hi H
    · have := ready_mono hj hji
      rw [H.1] at this
      cases this
  | succ fuel ih =>
    intro C listed a w hfree hcl hr hy H
    refine ⟨fun h => (by rw [h] at hr; cases hr), fun j hj => ?_⟩
    by_cases hji : j = i
    · subst hji; rw [hmi, if_neg Bool.false_ne_true]; exact hy.qOp hi H
    · have h1 := H.2 j (ready_mono hj hji)
      obtain ⟨hjun, oj, hoj, hall⟩ := mem_ready.1 hj
      have hap := hfree j oj hoj hji hjun (notOn hr hall)
      obtain ⟨p1, p2, p3⟩ := Oper.apart_spec hap
      have hfree' := free_step (md := md) (ops := ops) (oi := oi) hjun hfree
      have keep : ∀ u, YieldsIn P ops C oi v (a.put oj.dst u) := fun u =>
        hy.of_same (execOp_put oi (fun cs b => hsel i oi cs b hi) a oj.dst u p3) (wanted_put oi a oj.dst u p3)
      cases hmj : mv j
      · rw [hmj, if_neg Bool.false_ne_true] at h1
        rw [if_neg Bool.false_ne_true]
        have h2 := qOp_put hoj hap (fun cs b => hsel i oi cs b hi) (fun cs b => hsel j oj cs b hoj) hy h1
        refine qOp_mono (fun a' h3 => ih C (listed.setIfInBounds j true) a' w hfree' (hcl.step hj) (ready_mono hr (Ne.symm hji)) h3.1 ?_) h2
        rw [Array.setIfInBounds_comm _ _ hji]
        exact h3.2
      · rw [hmj, if_pos rfl] at h1
        rw [if_pos rfl]
        have hbj := fen_bar hF hcl hr hj (Ne.symm hji)
        refine mvOp_of_eq hoj (execOp_put oj (fun cs b => hsel j oj cs b hoj) a oi.dst v p1).symm (wanted_put oj a oi.dst v p1).symm (fun u w' hk => ?_) h1
        obtain ⟨C', hC', hw', hk⟩ := hk
        refine ⟨C', hC', hw', ih C' (listed.setIfInBounds j true) (a.put oj.dst u) w' hfree' (hcl.step hj) (ready_mono hr (Ne.symm hji)) (yields_down hci (hC'.2 hbj) (keep u)) ?_⟩
        rw [Array.setIfInBounds_comm _ _ hji, ← Act.put_comm a v u p2]
        exact hk
theorem anyF_moving {mv : Nat → Bool} {bar : Nat → Nat} {C : World → Prop} (hF : FenOk md ops bar) {Q : Act → World → Prop} {i : Nat} {oi : Oper} (hi : ops[i]? = some oi) (hmi : mv i = true) (hsel : ∀ (j : Nat) (o : Oper) cs b, ops[j]? = some o → o.op ≠ .select cs b)
    (hcalm : ∀ j o, ops[j]? = some o → mv j = false → calm2 o = true) (hreach : ∀ j, i < j → j < ops.size → mv j = true → (reachL md i ops.toList 0 #[]).getD j false = true) :
    ∀ (fuel : Nat) (listed : Array Bool) (a : Act) (w : World),
      (∀ j oj, ops[j]? = some oj → j ≠ i → listed.getD j true = false → (∀ e ∈ oj.after, Region.binds md e = true → e.on ≠ i) → oi.apart ops oj = true) →
      Closed md ops listed → (∀ j, j < i → listed.getD j true = true) → i ∈ Region.ready md ops listed → C w →
      mvOp P ops i (fun a' w' => ∃ C' : World → Prop, Stp (bar i) C C' ∧ C' w' ∧ wpAnyF P md ops mv bar Q fuel C' (listed.setIfInBounds i true) a' w') a w → wpAnyF P md ops mv bar Q (fuel + 1) C listed a w := by
  intro fuel
  induction fuel with
  | zero =>
    intro listed a w _ _ _ hr _ H
    refine ⟨fun h => (by rw [h] at hr; cases hr), fun j hj => ?_⟩
    by_cases hji : j = i
    · subst hji; rw [hmi, if_pos rfl]; exact H
    · obtain ⟨u, w', C', _, _, hk⟩ := mvOp_some hi H
      have := ready_mono hj hji
      rw [hk.1] at this
      cases this
  | succ fuel ih =>
    intro listed a w hfree hcl hlow hr hw H
    refine ⟨fun h => (by rw [h] at hr; cases hr), fun j hj => ?_⟩
    by_cases hji : j = i
    · subst hji; rw [hmi, if_pos rfl]; exact H
    · obtain ⟨hjun, oj, hoj, hall⟩ := mem_ready.1 hj
      have hjsz : j < ops.size := (Array.getElem?_eq_some_iff.1 hoj).1
      have hij : i < j := by
        rcases Nat.lt_or_ge j i with h | h
        · rw [hlow j h] at hjun; cases hjun
        · omega
      have hmj : mv j = false := by
        cases hmj : mv j with
        | false => rfl
        | true =>
          have := reach_listed (reach_ok (md := md) (ops := ops) i) hcl (j + 1) j (by omega) (hreach j hij hjsz hmj) (by omega) (fun o ho e he hb => by rw [hoj] at ho; cases ho; exact hall e he hb)
          have h0 := (mem_ready.1 hr).1
          rw [getD_true this] at h0
          cases h0
      have hbi := fen_plain hF hcl hr hj hij
      have hap := hfree j oj hoj hji hjun (notOn hr hall)
      obtain ⟨p1, p2, p3⟩ := Oper.apart_spec hap
      have hsi : ∀ cs b, oi.op ≠ .select cs b := fun cs b => hsel i oi cs b hi
      have hsj : ∀ cs b, oj.op ≠ .select cs b := fun cs b => hsel j oj cs b hoj
      have hr' := ready_mono hj hji
      have move : ∀ u v, YieldsIn P ops C oj v (a.put oi.dst u) → YieldsIn P ops C oj v a := fun u v h =>
        h.of_same (execOp_put oj hsj a oi.dst u p1).symm (wanted_put oj a oi.dst u p1).symm
      obtain ⟨u0, w0, C0, hC0, _, hk0⟩ := mvOp_some hi H
      cases hC0.1 hbi
      have hq := hk0.2 j hr'
      rw [hmj, if_neg Bool.false_ne_true] at hq
      obtain ⟨v, hy, _⟩ := yieldsIn_of_qOp hoj hq
      have hya := move _ _ hy
      rw [hmj, if_neg Bool.false_ne_true]
      refine hya.qOp hoj ?_
      refine ih (listed.setIfInBounds j true) (a.put oj.dst v) w (free_step (md := md) (ops := ops) (oi := oi) hjun hfree) (hcl.step hj) (fun k hk => ?_) (ready_mono hr (Ne.symm hji)) hw ?_
      · by_cases hkj : j = k
        · omega
        · rw [getD_set_ne true hkj]; exact hlow k hk
      · refine mvOp_of_eq hi (execOp_put oi hsi a oj.dst v p3) (wanted_put oi a oj.dst v p3) (fun u w' hk => ?_) H
        obtain ⟨C', hC', hw', hk⟩ := hk
        cases hC'.1 hbi
        refine ⟨C, Stp.refl _ _, hw', ?_⟩
        have hq' := hk.2 j hr'
        rw [hmj, if_neg Bool.false_ne_true] at hq'
        obtain ⟨v', hy', hk'⟩ := yieldsIn_of_qOp hoj hq'
        have := yields_det2 hw (hcalm j oj hoj hmj) hya (move _ _ hy')
        subst this
        rw [Array.setIfInBounds_comm _ _ hji, Act.put_comm a v u (fun d hd h => p2 d h hd)]
        exact hk'

def wpMixF (P : Program) (ops : Array Oper) (mv : Nat → Bool) (bar : Nat → Nat) (Q : Act → World → Prop) : List Oper → Nat → (World → Prop) → Act → World → Prop
  | [], _, _, a, w => Q a w
  | o :: r, k, C, a, w => if Region.wanted o (yielded ops a.tmps) then (if mv k then wpN P o a w (fun a' w' => ∃ C' : World → Prop, Stp (bar k) C C' ∧ C' w' ∧ wpMixF P ops mv bar Q r (k + 1) C' a' w') else o.quiet P a C (fun a' => wpMixF P ops mv bar Q r (k + 1) C a' w)) else wpMixF P ops mv bar Q r (k + 1) C (a.put o.dst undef) w
theorem anyF_lex {mv : Nat → Bool} {bar : Nat → Nat} (hF : FenOk md ops bar) {Q : Act → World → Prop} (hs : Region.noSelect ops = true) (hcalm : ∀ j o, ops[j]? = some o → mv j = false → calm2 o = true) : ∀ (l : List Oper) (k : Nat) (C : World → Prop) (listed : Array Bool) (a : Act) (w : World), (∀ j, l[j]? = ops[k + j]?) →
    mixFrom md ops mv l.length k listed = true → Closed md ops listed → (∀ j, j < k → listed.getD j true = true) → C w → wpMixF P ops mv bar Q l k C a w → wpAnyF P md ops mv bar Q l.length C listed a w
  | [], _, _, _, _, _, _, hB, _, _, _, h => ⟨by simpa [mixFrom] using hB, h⟩
  | o :: l, k, C, listed, a, w, hl, hB, hcl, hlow, hw, h => by
    have h0 : ops[k]? = some o := by simpa using (hl 0).symm
    simp only [List.length_cons, mixFrom, Bool.and_eq_true] at hB
    obtain ⟨⟨⟨hr, hf⟩, hm⟩, hB'⟩ := hB
    have hr' : k ∈ Region.ready md ops listed := by simpa using hr
    have hl' : ∀ j, l[j]? = ops[k + 1 + j]? := fun j => by have := hl (j + 1); simpa [Nat.add_assoc, Nat.add_comm 1 j] using this
    have hlow' : ∀ j, j < k + 1 → (listed.setIfInBounds k true).getD j true = true := fun j hj => by
      by_cases hjk : k = j
      · subst hjk
        by_cases hks : k < listed.size <;> simp [hks]
      · rw [getD_set_ne true hjk]; exact hlow j (by omega)
    unfold wpMixF at h
    cases hmk : mv k with
    | false =>
      have hst : qOp P ops C k (fun a' => wpMixF P ops mv bar Q l (k + 1) C a' w) a := by
        unfold qOp
        simp only [h0]
        simp only [hmk, Bool.false_eq_true, if_false] at h
        exact h
      obtain ⟨v, hy, hK⟩ := yieldsIn_of_qOp h0 hst
      exact anyF_steady hF h0 hmk (hcalm k o h0 hmk) (Region.noSelect_spec hs) l.length C listed a w (Region.free_spec h0 hf) hcl hr' hy
        (anyF_lex hF hs hcalm l (k + 1) C _ _ w hl' hB' (hcl.step hr') hlow' hw hK)
    | true =>
      have hmvo : mvOp P ops k (fun a' w' => ∃ C' : World → Prop, Stp (bar k) C C' ∧ C' w' ∧ wpMixF P ops mv bar Q l (k + 1) C' a' w') a w := by
        unfold mvOp
        simp only [h0]
        simp only [hmk, if_true] at h
        split
        · rename_i hwd; rw [if_pos hwd] at h; exact h
        · rename_i hwd; rw [if_neg hwd] at h; exact ⟨C, Stp.refl _ _, hw, h⟩
      simp only [hmk, Bool.not_true, Bool.false_or, List.all_eq_true, List.mem_range] at hm
      refine anyF_moving hF h0 hmk (Region.noSelect_spec hs) hcalm (fun j hkj hjs hmj => ?_) l.length listed a w (Region.free_spec h0 hf) hcl hlow hr' hw
        (mvOp_mono (fun a' w' hk => by
          obtain ⟨C', hC', hw', hk⟩ := hk
          exact ⟨C', hC', hw', anyF_lex hF hs hcalm l (k + 1) C' _ _ w' hl' hB' (hcl.step hr') hlow' hw' hk⟩) hmvo)
      have := hm j hjs
      simp only [hkj, decide_true, hmj, Bool.and_true, Bool.not_true, Bool.false_or] at this
      exact this
theorem wpAny_of_F {mv : Nat → Bool} {bar : Nat → Nat} {Q : Act → World → Prop} {Q' : Exit → Act → World → Prop} (hcalm : ∀ j o, ops[j]? = some o → mv j = false → calm2 o = true) (hQ : ∀ a w, Q a w → Q' .normal a w) : ∀ (fuel : Nat) (C : World → Prop) (listed : Array Bool) (a : Act) (w : World), C w →
    wpAnyF P md ops mv bar Q fuel C listed a w → wpAny P md ops Q' fuel listed a w
  | 0, _, _, _, _, _, h => ⟨h.1, hQ _ _ h.2⟩
  | fuel + 1, C, _, _, _, hw, h => ⟨fun h0 => hQ _ _ (h.1 h0), fun i hi => by
      have h1 := h.2 i hi
      split at h1
      · exact wpOp_of_mvOp (mvOp_mono (fun a' w' hk => by
          obtain ⟨C', _, hw', hk⟩ := hk
          exact wpAny_of_F hcalm hQ fuel C' _ a' w' hw' hk) h1)
      · rename_i hmi
        unfold qOp at h1
        unfold wpOp
        split
        · rename_i ho; simp only [ho] at h1; exact wpAny_of_F hcalm hQ fuel C _ _ _ hw h1
        · rename_i o ho
          simp only [ho] at h1
          split
          · rename_i hwd
            rw [if_pos hwd] at h1
            obtain ⟨v, hv, hk⟩ := h1
            refine .inl ?_
            unfold Oper.wp
            rcases quiet_calm2 (hcalm _ o ho (by simpa using hmi)) (hv _ hw) with hr | ⟨hr, rfl⟩ <;> rw [hr] <;> exact wpAny_of_F hcalm hQ fuel C _ _ _ hw hk
          · rename_i hwd; rw [if_neg hwd] at h1; exact wpAny_of_F hcalm hQ fuel C _ _ _ hw h1⟩
def mixB2 (ops : Array Oper) (mv : Nat → Bool) : Bool :=
  Region.noSelect ops && ((List.range ops.size).all fun j => mv j || (ops[j]?).all calm2) && mixFrom .any ops mv ops.size 0 (Array.replicate ops.size false)
theorem wp_region_mixF0 {id : Nat} {Q : Exit → Act → World → Prop} {C : World → Prop} {a : Act} {w : World} {mv : Nat → Bool} {bar : Nat → Nat} (hF : FenOk .any ops bar) (hm : P.follows .mixedOrders = true) (hB : mixB2 ops mv = true) (hC : C w.drew)
    (h : wpMixF P ops mv bar (fun a' w' => Q .normal a' w') ops.toList 0 C a w.drew) : (Code.region id ops true).wp P Q a w := by
  simp only [mixB2, Bool.and_eq_true, List.all_eq_true, List.mem_range] at hB
  obtain ⟨⟨h1, h2⟩, h3⟩ := hB
  have hcalm : ∀ j o, ops[j]? = some o → mv j = false → calm2 o = true := fun j o ho hmj => by
    have := h2 j (Array.getElem?_eq_some_iff.1 ho).1
    simpa [hmj, ho] using this
  refine wp_region_any hm (wpAny_of_F (bar := bar) hcalm (Q := fun a' w' => Q .normal a' w') (fun _ _ h => h) _ C _ _ _ hC ?_)
  have := anyF_lex (md := .any) hF h1 hcalm ops.toList 0 C (Array.replicate ops.size false) a w.drew (by simp) (by simpa using h3)
    (fun j o _ hj => by
      exfalso
      by_cases hjs : j < ops.size
      · simp [hjs] at hj
      · simp [hjs] at hj) (fun j hj => by omega) hC h
  simpa using this

/-! ### In segments: n steady operations, a moving one (true: a barrier), and so on -/
def wpHeadF (P : Program) (ops : Array Oper) (bar : Nat) (K : (World → Prop) → List Oper → Act → World → Prop) : (World → Prop) → List Oper → Act → World → Prop
  | _, [], _, _ => False
  | C, m :: r, a, w => if Region.wanted m (yielded ops a.tmps) then wpN P m a w (fun a' w' => ∃ C' : World → Prop, Stp bar C C' ∧ C' w' ∧ K C' r a' w') else K C r (a.put m.dst undef) w
def wpSegsF (P : Program) (ops : Array Oper) (Q : Act → World → Prop) : List (Nat × Nat) → (World → Prop) → List Oper → Act → World → Prop
  | [], C, l, a, w => wpQuiet P ops C (fun a' => Q a' w) l a
  | n :: ns, C, l, a, w => wpQuiet P ops C (fun a' => wpHeadF P ops n.2 (wpSegsF P ops Q ns) C (l.drop n.1) a' w) (l.take n.1) a
def kindOf : List (Nat × Nat) → Nat → Nat
  | [], _ => 0
  | n :: ns, k => if k = n.1 then n.2 else if n.1 < k then kindOf ns (k - (n.1 + 1)) else 0
theorem mixF_prefix {mv : Nat → Bool} {bar : Nat → Nat} {C : World → Prop} {Q : Act → World → Prop} {r : List Oper} {w : World} : ∀ (s : List Oper) (k : Nat) (a : Act), (∀ j, j < s.length → mv (k + j) = false) →
    wpQuiet P ops C (fun a' => wpMixF P ops mv bar Q r (k + s.length) C a' w) s a → wpMixF P ops mv bar Q (s ++ r) k C a w
  | [], k, a, _, h => by simpa [wpQuiet] using h
  | o :: s, k, a, hm, h => by
    have h0 : mv k = false := by have := hm 0 (by simp); simpa using this
    have hm' : ∀ j, j < s.length → mv (k + 1 + j) = false := fun j hj => by have := hm (j + 1) (by simp; omega); simpa [Nat.add_assoc, Nat.add_comm 1 j] using this
    have hk : k + 1 + s.length = k + (o :: s).length := by simp; omega
    show wpMixF P ops mv bar Q (o :: (s ++ r)) k C a w
    unfold wpMixF
    unfold wpQuiet at h
    split
    · rename_i hw
      rw [if_pos hw] at h
      simp only [h0, Bool.false_eq_true, if_false]
      exact Oper.quiet_mono (fun a' h' => mixF_prefix s (k + 1) a' hm' (by rw [hk]; exact h')) h
    · rename_i hw
      rw [if_neg hw] at h
      exact mixF_prefix s (k + 1) _ hm' (by rw [hk]; exact h)
theorem mixF_of_segs {mv : Nat → Bool} {bar : Nat → Nat} {Q : Act → World → Prop} : ∀ (ns : List (Nat × Nat)) (C : World → Prop) (l : List Oper) (k : Nat) (a : Act) (w : World), (∀ j, mv (k + j) = mvOf (ns.map Prod.fst) j) → (∀ j, bar (k + j) = kindOf ns j) → wpSegsF P ops Q ns C l a w → wpMixF P ops mv bar Q l k C a w
  | [], C, l, k, a, w, hm, _, h => by
    have := mixF_prefix (P := P) (ops := ops) (C := C) (mv := mv) (bar := bar) (Q := Q) (r := []) (w := w) l k a (fun j _ => by rw [hm]; rfl) (wpQuiet_mono (fun a' h => by unfold wpMixF; exact h) l a h)
    simpa using this
  | n :: ns, C, l, k, a, w, hm, hb, h => by
    unfold wpSegsF at h
    rw [← List.take_append_drop n.1 l]
    refine mixF_prefix (l.take n.1) k a (fun j hj => ?_) (wpQuiet_mono (fun a' h' => ?_) _ _ h)
    · rw [List.length_take] at hj
      rw [hm]
      simp only [List.map_cons, mvOf]
      have h1 : (j == n.1) = false := by simp; omega
      have h2 : decide (n.1 < j) = false := by simp; omega
      simp [h1, h2]
    · generalize hd : l.drop n.1 = d at h'
      cases d with
      | nil => exact h'.elim
      | cons m r =>
        have hlen : (l.take n.1).length = n.1 := by
          have : (l.drop n.1).length = l.length - n.1 := List.length_drop
          rw [hd] at this
          simp at this ⊢
          omega
        have hmn : mv (k + (l.take n.1).length) = true := by rw [hlen, hm]; simp [mvOf]
        have hbn : bar (k + (l.take n.1).length) = n.2 := by rw [hlen, hb]; simp [kindOf]
        have hm' : ∀ j, mv (k + (l.take n.1).length + 1 + j) = mvOf (ns.map Prod.fst) j := fun j => by
          rw [hlen, show k + n.1 + 1 + j = k + (n.1 + 1 + j) by omega, hm]
          simp only [List.map_cons, mvOf]
          have h1 : (n.1 + 1 + j == n.1) = false := by simp; omega
          have h2 : decide (n.1 < n.1 + 1 + j) = true := by simp; omega
          rw [h1, h2, show n.1 + 1 + j - (n.1 + 1) = j by omega]
          simp
        have hb' : ∀ j, bar (k + (l.take n.1).length + 1 + j) = kindOf ns j := fun j => by
          rw [hlen, show k + n.1 + 1 + j = k + (n.1 + 1 + j) by omega, hb]
          simp only [kindOf]
          rw [if_neg (by omega), if_pos (by omega), show n.1 + 1 + j - (n.1 + 1) = j by omega]
        unfold wpMixF
        simp only [wpHeadF] at h'
        split
        · rename_i hw
          rw [if_pos hw] at h'
          refine wpN_mono (fun u w' hk => ?_) h'
          obtain ⟨C', hC', hw', hk⟩ := hk
          exact ⟨C', by rw [hbn]; exact hC', hw', mixF_of_segs ns C' r _ _ w' hm' hb' hk⟩
        · rename_i hw
          rw [if_neg hw] at h'
          exact mixF_of_segs ns C r _ _ w hm' hb' h'
/-- each fence: all behind it follow it; each barrier: besides all ahead of it precede it. -/
def fenB (ops : Array Oper) (bar : Nat → Nat) : Bool := (List.range ops.size).all fun j => (bar j == 0) || ((List.range ops.size).all fun i => !(decide (j < i)) || (reachL .any j ops.toList 0 #[]).getD i false) && ((bar j == 1) || (List.range ops.size).all fun i => !(decide (i < j)) || (reachL .any i ops.toList 0 #[]).getD j false)
theorem fenB_ok {bar : Nat → Nat} (h : fenB ops bar = true) : FenOk .any ops bar := fun i j hj hi hjs => by
  simp only [fenB, List.all_eq_true, List.mem_range, Bool.or_eq_true, Bool.and_eq_true, Bool.not_eq_true', decide_eq_false_iff_not, beq_iff_eq] at h
  rcases h j hjs with h1 | ⟨h1, h2⟩
  · omega
  · refine ⟨fun hlt => ?_, fun hlt hb => ?_⟩
    · rcases h1 i hi with h | h
      · exact absurd hlt h
      · exact h
    · rcases h2 with h2 | h2
      · omega
      · rcases h2 i hi with h | h
        · exact absurd hlt h
        · exact h
/-- the barrier, in the walk's own form: the class behind it is chosen. -/
theorem wpHeadF_bar {C : World → Prop} {K : (World → Prop) → List Oper → Act → World → Prop} {m : Oper} {r : List Oper} {a : Act} {w : World} (hw : Region.wanted m (yielded ops a.tmps) = true)
    (h : ∀ K' : Act → World → Prop, (∀ (a' : Act) (w' : World) (S : Nat → Prop) [DecidablePred S], a'.defers = a.defers → K (fun x => ∃ y, x = graft S w' y) r a' w' → K' a' w') → m.wp P a w K' (fun _ _ _ => False)) : wpHeadF P ops 2 K C (m :: r) a w := by
  simp only [wpHeadF]
  rw [if_pos hw]
  exact wpN_of_wp (h _ fun a' w' S _ hd hk => ⟨hd, (fun x => ∃ y, x = graft S w' y), ⟨(fun h => nomatch h), (fun h => absurd h (by decide))⟩, fr_graft (Fr.refl S w'), hk⟩)
/-- the fence, in the walk's own form: the world must be of the class; the class behind it is narrower. -/
theorem wpHeadF_fen {C : World → Prop} {K : (World → Prop) → List Oper → Act → World → Prop} {m : Oper} {r : List Oper} {a : Act} {w : World} (hw : Region.wanted m (yielded ops a.tmps) = true)
    (h : ∀ K' : Act → World → Prop, (∀ (a' : Act) (w' : World) (S : Nat → Prop) [DecidablePred S], a'.defers = a.defers → C w' → K (fun x => ∃ y, x = fenG C S w' y) r a' w' → K' a' w') → m.wp P a w K' (fun _ _ _ => False)) : wpHeadF P ops 1 K C (m :: r) a w := by
  simp only [wpHeadF]
  rw [if_pos hw]
  refine wpN_of_wp (h _ fun a' w' S _ hd hc hk => ⟨hd, (fun x => ∃ y, x = fenG C S w' y), ⟨(fun h => nomatch h), (fun _ x hx => ?_)⟩, fen_graft (Fr.refl S w') hc, hk⟩)
  obtain ⟨y, rfl⟩ := hx
  exact fenG_in hc
/-- a plain moving operation. -/
theorem wpHeadF_want {C : World → Prop} {K : (World → Prop) → List Oper → Act → World → Prop} {m : Oper} {r : List Oper} {a : Act} {w : World} (hw : Region.wanted m (yielded ops a.tmps) = true)
    (h : ∀ K' : Act → World → Prop, (∀ a' w', a'.defers = a.defers → C w' → K C r a' w' → K' a' w') → m.wp P a w K' (fun _ _ _ => False)) : wpHeadF P ops 0 K C (m :: r) a w := by
  simp only [wpHeadF]
  rw [if_pos hw]
  exact wpN_of_wp (h _ fun a' w' hd hc hk => ⟨hd, C, Stp.refl _ _, hc, hk⟩)
theorem wpHeadF_skip {bar : Nat} {C : World → Prop} {K : (World → Prop) → List Oper → Act → World → Prop} {m : Oper} {r : List Oper} {a : Act} {w : World} (hw : Region.wanted m (yielded ops a.tmps) = false)
    (h : K C r (a.put m.dst undef) w) : wpHeadF P ops bar K C (m :: r) a w := by
  simp only [wpHeadF]
  rw [if_neg (by rw [hw]; exact Bool.false_ne_true)]
  exact h
end
/-- the region's walk with fences and barriers. -/
theorem wp_region_fen {P : Program} {id : Nat} {Q : Exit → Act → World → Prop} {a : Act} {w : World} {l : List Oper} (S : Nat → Prop) [DecidablePred S] (ns : List (Nat × Nat)) (hm : P.follows .mixedOrders = true) (hB : (mixB2 l.toArray (mvOf (ns.map Prod.fst)) && fenB l.toArray (kindOf ns)) = true)
    (h : wpSegsF P l.toArray (fun a' w' => Q .normal a' w') ns (fun w' => ∃ x, w' = graft S w x) l a w.drew) : (Code.region id l.toArray true).wp P Q a w := by
  rw [Bool.and_eq_true] at hB
  exact wp_region_mixF0 (fenB_ok hB.2) hm hB.1 (fr_graft (Fr.drew (Fr.refl S w))) (mixF_of_segs ns _ l 0 a w.drew (by simp) (by simp) h)
end Go.Proofs.YtahjnonkhbpnpaaGreat
