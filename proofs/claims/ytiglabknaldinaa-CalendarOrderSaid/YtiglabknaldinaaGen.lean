/- A slice of structs, read (SlG): its cells are the elements' cells in a row; and how such an argument is read. -/
import Derived.Test.YtiglabknaldinaaLaw
namespace Go.Proofs.Ytiglabknaldinaa
open Go.ChangeShapes Go.WideShapes Go.ChangeAt Go.RowKit Go.Joins
section
variable {α : Type} {w w' : World} {A : Option Addr} {n c sz : Nat} {f : α → List Value} {l : List α}
def atD (d : α) (l : List α) (k : Nat) : α := l.getD k d
theorem atD_lt {d : α} {k : Nat} (h : k < l.length) : atD d l k = l[k] := by simp [atD, List.getD, h]
theorem take_snocG (d : α) (l : List α) (k : Nat) (h : k < l.length) : l.take (k + 1) = l.take k ++ [atD d l k] := by
  rw [List.take_succ_eq_append_getElem h, atD_lt h]
theorem atD_mem {d : α} {k : Nat} (h : k < l.length) : atD d l k ∈ l := by rw [atD_lt h]; exact List.getElem_mem _
/-- a slice of structs of sz cells each -/
def SlG (w : World) (A : Option Addr) (n c sz : Nat) (f : α → List Value) (l : List α) : Prop := Sl w A n c sz (l.flatMap f) ∧ l.length = n ∧ ∀ x ∈ l, (f x).length = sz
theorem SlG.keep (h : SlG w A n c sz f l) (hb : Below w.heap.size w w') : SlG w' A n c sz f l := ⟨h.1.keep hb, h.2⟩
theorem SlG.fr {S : Nat → Prop} (h : SlG w A n c sz f l) (hb : Fr S w w') (hS : ∀ b o, 0 < n → A = some ⟨b, o, none⟩ → ¬ S b) : SlG w' A n c sz f l := ⟨h.1.fr hb hS, h.2⟩
theorem SlG.nil (w : World) (sz : Nat) (f : α → List Value) : SlG w none 0 0 sz f [] := ⟨Sl.nil w sz, rfl, fun x h => by cases h⟩
theorem SlG.len (h : SlG w A n c sz f l) : n ≤ 9223372036854775807 := h.1.len_le
theorem flat_get (d : α) (l : List α) (hf : ∀ x ∈ l, (f x).length = sz) (k j : Nat) (hk : k < l.length) (hj : j < sz) : (l.flatMap f)[k * sz + j]? = (f (atD d l k))[j]? := by
  induction l generalizing k with
  | nil => simp at hk
  | cons x l ih =>
    have hx := hf x (by simp)
    cases k with
    | zero =>
      rw [List.flatMap_cons, Nat.zero_mul, Nat.zero_add, List.getElem?_append_left (by omega)]
      simp [atD]
    | succ k =>
      rw [List.flatMap_cons, List.getElem?_append_right (by rw [hx, Nat.add_mul]; omega), hx, show (k + 1) * sz + j - sz = k * sz + j by rw [Nat.add_mul]; omega, ih (fun y hy => hf y (by simp [hy])) k (by simpa using hk)]
      simp [atD]
theorem SlG.at_ (d : α) (h : SlG w A n c sz f l) {k : Nat} (hk : k < n) : ∃ b o, A = some ⟨b, o, none⟩ ∧ b < w.heap.size ∧ ∀ j u, (f (atD d l k))[j]? = some u → w.cell? ⟨b, o + k * sz + j, none⟩ = some u := by
  obtain ⟨b, o, e, hb, hc⟩ := h.1.at_ (by omega)
  refine ⟨b, o, e, hb, fun j u hu => ?_⟩
  have hl := h.2.1
  have hj : j < sz := by
    have h1 := (List.getElem?_eq_some_iff.1 hu).1
    rw [h.2.2 _ (atD_mem (by omega))] at h1
    exact h1
  rw [Nat.add_assoc]
  exact hc _ u (by rw [flat_get d l h.2.2 k j (by omega) hj]; exact hu)
theorem SlG.of_own {base : Nat} {e : TypeId} {v : Value} {n : Nat} {l : List α} (h : w.ownsRow base e sz v n (l.flatMap f)) (hf : ∀ x ∈ l, (f x).length = sz) (hl : l.length = n) : ∃ A c, v = .slice A n c ∧ SlG w A n c sz f l ∧ ∀ b o, A = some ⟨b, o, none⟩ → base ≤ b := by
  obtain ⟨A, c, hv, hs, hb⟩ := Sl.of_own h
  exact ⟨A, c, hv, ⟨hs, hl, hf⟩, hb⟩
theorem flat_len (l : List α) (hf : ∀ x ∈ l, (f x).length = sz) : (l.flatMap f).length = l.length * sz := by
  induction l with
  | nil => simp
  | cons x l ih =>
    rw [List.flatMap_cons, List.length_append, hf x (by simp), ih (fun y hy => hf y (by simp [hy])), List.length_cons, Nat.add_mul]
    omega
end
/-- chunks of sz cells, each an element's, as a list of elements. -/
theorem rows_of {α : Type} {f : α → List Value} {ok : α → Prop} {sz : Nat} : ∀ (n : Nat) (cs : List Value), cs.length = n * sz → (∀ i, i < n → ∃ a, (cs.drop (i * sz)).take sz = f a ∧ ok a) → ∃ l : List α, l.length = n ∧ cs = l.flatMap f ∧ ∀ a ∈ l, ok a
  | 0, cs, hl, _ => ⟨[], rfl, by simpa using hl, fun a h => by cases h⟩
  | n + 1, cs, hl, h => by
    rw [Nat.add_mul, Nat.one_mul] at hl
    obtain ⟨a, ha, hoa⟩ := h 0 (by omega)
    rw [Nat.zero_mul, List.drop_zero] at ha
    obtain ⟨l, h1, h2, h3⟩ := rows_of (f := f) (ok := ok) (sz := sz) n (cs.drop sz) (by rw [List.length_drop]; omega) (fun i hi => by
      obtain ⟨b, hb, hob⟩ := h (i + 1) (by omega)
      rw [Nat.add_mul, Nat.one_mul] at hb
      exact ⟨b, by rw [List.drop_drop, Nat.add_comm]; exact hb, hob⟩)
    exact ⟨a :: l, by simp [h1], by rw [List.flatMap_cons, ← ha, ← h2, List.take_append_drop], fun b hb => by
      rcases List.mem_cons.1 hb with rfl | hb
      · exact hoa
      · exact h3 b hb⟩
section
variable {H : Type} {enc : TypeId × Value → H} {P : Program} {W : World}
/-- a struct of ints alone: its cells. -/
theorem trod_ints_row {t tint : TypeId} {fs : Array Field} (hu : P.underlying t = some (.struct fs)) (hint : P.underlying tint = some (.int .i64)) (hC : P.cellsOf tint = 1) (k : Nat)
    (hfs : ∀ i, i < k → (fs[i]?).map (fun f => (f.type, f.offset)) = some (tint, i)) {fuel : Nat} {cs : List Value} {x : DataW H × List MemPlace} (hl : cs.length = k) (h : DataW.trod enc P W 0 (fun _ => true) true fuel t cs = some x) :
    ∃ zs : List Int, zs.length = k ∧ cs = zs.map (Value.int .i64) ∧ ∀ z ∈ zs, i64 z := by
  have hi : ∀ i, i < k → ∃ z, cs[i]? = some (.int .i64 z) ∧ i64 z := fun i hi => by
    obtain ⟨_, _, g⟩ := trod_field hu h i tint i 1 (hfs i hi) hC
    have hlt : i < cs.length := by omega
    have e : (cs.drop i).take 1 = [cs[i]] := by
      rw [List.drop_eq_getElem_cons hlt]
      rfl
    rw [e] at g
    obtain ⟨z, hz, wz⟩ := trod_int_one hint g
    exact ⟨z, by rw [List.getElem?_eq_getElem hlt, hz], i64_of_wf wz⟩
  have := rows_of (f := fun z => [Value.int .i64 z]) (ok := i64) (sz := 1) k cs (by omega) (fun i hik => by
    obtain ⟨z, hz, wz⟩ := hi i hik
    have hlt : i < cs.length := by omega
    refine ⟨z, ?_, wz⟩
    rw [Nat.mul_one, List.drop_eq_getElem_cons hlt]
    rw [List.getElem?_eq_getElem hlt] at hz
    rw [Option.some.inj hz]
    rfl)
  obtain ⟨zs, h1, h2, h3⟩ := this
  refine ⟨zs, h1, ?_, h3⟩
  rw [h2]
  clear h1 h2 h3
  induction zs with
  | nil => rfl
  | cons z zs ih => simp [List.flatMap_cons, ih]
theorem trod_SlG {α : Type} {f : α → List Value} {ok : α → Prop} {t e : TypeId} {sz : Nat} (ht : P.underlying t = some (.slice e)) (hC : P.cellsOf e = sz) (hs : 0 < sz)
    (hrd : ∀ (fuel : Nat) (cs : List Value) (x : DataW H × List MemPlace), cs.length = sz → DataW.trod enc P W 0 (fun _ => true) true fuel e cs = some x → ∃ a, cs = f a ∧ ok a)
    {fuel : Nat} {v : Value} {x : DataW H × List MemPlace} (h : DataW.trod enc P W 0 (fun _ => true) true fuel t [v] = some x) : ∃ A n c l, v = .slice A n c ∧ SlG W A n c sz f l ∧ ∀ a ∈ l, ok a := by
  obtain ⟨A, n, c, cs, rfl, hsl, he⟩ := trod_Sl ht hC hs h
  have hl := hsl.1
  have hch : ∀ i, i < n → ∃ a, (cs.drop (i * sz)).take sz = f a ∧ (ok a ∧ (f a).length = sz) := fun i hi => by
    obtain ⟨_, _, g⟩ := he i hi
    have hcl : ((cs.drop (i * sz)).take sz).length = sz := by
      rw [List.length_take, List.length_drop, hl]
      have : (i + 1) * sz ≤ n * sz := Nat.mul_le_mul_right _ hi
      rw [Nat.add_mul, Nat.one_mul] at this
      omega
    obtain ⟨a, ha, hoa⟩ := hrd _ _ _ hcl g
    exact ⟨a, ha, hoa, by rw [← ha, hcl]⟩
  obtain ⟨l, h1, h2, h3⟩ := rows_of n cs hl hch
  subst h2
  exact ⟨A, n, c, l, rfl, ⟨hsl, h1, fun a ha => (h3 a ha).2⟩, fun a ha => (h3 a ha).1⟩
theorem arg_SlG {α : Type} {f : α → List Value} {ok : α → Prop} {r : Reach} {base : Nat} {t e : TypeId} {sz : Nat} (ht : P.underlying t = some (.slice e)) (hC : P.cellsOf e = sz) (hs : 0 < sz)
    (hrd : ∀ (fuel : Nat) (cs : List Value) (x : DataW H × List MemPlace), cs.length = sz → DataW.trod enc P W 0 (fun _ => true) true fuel e cs = some x → ∃ a, cs = f a ∧ ok a)
    {v : Value} {d : DataW H} {p : List MemPlace} (hv : Value.okWide P W r base t v) (h : DataW.Trod enc P W 0 (fun _ => true) true t v d p) : ∃ A n c l, v = .slice A n c ∧ SlG W A n c sz f l ∧ ∀ a ∈ l, ok a := by
  obtain ⟨a, len, cap, rfl⟩ := okWide_slice ht hv
  obtain ⟨fuel, hf⟩ := h
  exact trod_SlG ht hC hs hrd (fuel := fuel) (by simpa [Value.cells] using hf)
/-- a struct of ints alone, by value. -/
theorem arg_ints_row {r : Reach} {base : Nat} {t tint : TypeId} {fs : Array Field} (hu : P.underlying t = some (.struct fs)) (hint : P.underlying tint = some (.int .i64)) (hC : P.cellsOf tint = 1) (k : Nat) (hk : P.cellsOf t = k)
    (hfs : ∀ i, i < k → (fs[i]?).map (fun f => (f.type, f.offset)) = some (tint, i)) {v : Value} {d : DataW H} {p : List MemPlace} (hv : Value.okWide P W r base t v) (h : DataW.Trod enc P W 0 (fun _ => true) true t v d p) :
    ∃ zs : List Int, zs.length = k ∧ v = .agg (zs.map (Value.int .i64)).toArray ∧ ∀ z ∈ zs, i64 z := by
  obtain ⟨cs, rfl, hsz⟩ := okWide_struct hu hv
  rw [hk] at hsz
  obtain ⟨fuel, hf⟩ := h
  obtain ⟨zs, h1, h2, h3⟩ := trod_ints_row hu hint hC k hfs (cs := cs.toList) (by simpa using hsz) hf
  exact ⟨zs, h1, by rw [← h2], h3⟩
end
end Go.Proofs.Ytiglabknaldinaa
