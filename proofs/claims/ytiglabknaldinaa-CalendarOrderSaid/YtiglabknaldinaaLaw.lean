/- From a law's walk to its row: the law returns true and leaves all that was there as it was; and how arguments are read. -/
import Derived.Test.YtiglabknaldinaaRows
import Derived.Test.YtiglabknaldinaaBase
import Derived.ProofKit
import Derived.OpenShut
import Derived.ShutString
import Derived.ChangeOld
import Derived.Lib.SmallJoins
import Derived.Deep.Slices
namespace Go.Proofs.Ytiglabknaldinaa
open Go.ChangeShapes Go.WideShapes Go.ChangeAt Go.RowKit Go.Joins
open Go.ChangeMaps (open_string shut_string)

theorem Try.own : ownKnob Try.prog.godebug = none := by kernel_rfl
theorem Try.laidOut : laidOutB Try.prog = true := by kernel_rfl
theorem Try.u_bool : Try.prog.underlying 4 = some .bool := by kernel_rfl

theorem below_trodAll {P : Program} (hlo : laidOutB P = true) {H : Type} {enc : TypeId × Value → H} {W W' : World} (hb : Below W.heap.size W W') : ∀ {ts : List TypeId} {vs : List Value} {ds : List (DataW H)} {ps : List MemPlace},
    (ts.all fun t => P.readableRec t && decide (t < P.types.size)) = true → DataW.TrodAll enc P W 0 (fun _ => true) true ts vs ds ps → DataW.TrodAll enc P W' 0 (fun b => decide (b < W.heap.size)) true ts vs ds ps
  | [], vs, ds, ps, _, h => by
    obtain ⟨rfl, rfl, rfl⟩ := trodAll_nil h
    exact trodAll_mk0
  | t :: ts, vs, ds, ps, ht, h => by
    obtain ⟨v, vs', d, ds', p, q, rfl, rfl, rfl, h0, h1⟩ := trodAll_cons h
    rw [List.all_cons, Bool.and_eq_true, Bool.and_eq_true, decide_eq_true_eq] at ht
    have lt0 : ∀ x ∈ p, x.block < W.heap.size := by obtain ⟨m, hm⟩ := h0; exact DataW.trod_lt m _ _ _ hm
    exact trodAll_cons_mk (Below.trod hlo ht.1.1 ht.1.2 h0 hb lt0) (below_trodAll hlo hb ht.2 h1)
theorem trodAll_len {P : Program} {H : Type} {enc : TypeId × Value → H} {W : World} : ∀ {ts : List TypeId} {vs : List Value} {ds : List (DataW H)} {ps : List MemPlace}, DataW.TrodAll enc P W 0 (fun _ => true) true ts vs ds ps → ds.length = ts.length
  | [], vs, ds, ps, h => by
    obtain ⟨rfl, rfl, rfl⟩ := trodAll_nil h
    rfl
  | t :: ts, vs, ds, ps, h => by
    obtain ⟨v, vs', d, ds', p, q, rfl, rfl, rfl, h0, h1⟩ := trodAll_cons h
    rw [List.length_cons, List.length_cons, trodAll_len h1]

set_option maxRecDepth 100000 in
theorem law_lifted (f : FuncId) (fn : Func) (s : ChangeSpec) (os : Os) (started : os.Started) (H : Type) (enc : TypeId × Value → H) (hvars : s.vars = [])
    (hfn : Try.checked.prog.funcs[f]? = some fn) (hini : Try.checked.prog.inits.idxOf? f = none) (hres : fn.resultTypes.toList = [4]) (hrn : fn.resultTypes.size = 1)
    (hpar : (fn.params.toList.all fun t => Try.prog.readableRec t && decide (t < Try.prog.types.size)) = true)
    (hspec : ∀ ds : List (DataW H), ds.length = fn.params.toList.length → s.fn H ds = { results := [.lit (.bool true)], args := ds })
    (witness : ∃ (w : World) (tape : Tape) (i : Input), w.os = os ∧ (w.forCall tape i).Shaped Try.checked.prog ∧ i.vars = [] ∧ Input.okWide Try.checked.prog (w.forCall tape i) .any w.heap.size f i ∧
      s.pre6 enc Try.checked.prog fn [] false (w.forCall tape i).memory i.args ∧ ({} : Assume).holds Try.checked.prog (lone (Frame.enter Try.checked.prog f i.args .normal) [] (w.forCall tape i)))
    (contract : ∀ (W : World) (base : Nat) (args : Array Value) (ds : List (DataW H)) (ps : List MemPlace),
      (∀ (j : Nat) t v, fn.params[j]? = some t → args[j]? = some v → Value.okWide Try.prog W .any base t v) → DataW.TrodAll enc Try.prog W 0 (fun _ => true) true fn.params.toList args.toList ds ps →
      Calls Try.prog f args W fun e W' => e = .returned (.bool true) ∧ Below W.heap.size W W') :
    ReturnsInHanded {} Try.checked os f .any (s.pre6 enc Try.prog fn [] false) (s.post enc Try.prog fn false true false false) := by
  refine returnsInHanded_of_change (C := Try.checked) Try.own started hini hfn witness ?_
  intro W base args ds gs before hval hW _ _
  have hW' := hW
  obtain ⟨p, q, hA, hV, rfl, hfz, hnd⟩ := hW
  rw [hvars] at hV
  obtain ⟨rfl, rfl⟩ := trodVars_none hV
  refine (contract W base args ds p hval hA).mono fun e W' ⟨he, bel⟩ => ?_
  subst he
  have hlen : ds.length = fn.params.toList.length := trodAll_len hA
  have hsp := hspec ds hlen
  refine ⟨_, rfl, ds, [], _, [], p, [], hW', ?_, ?_, ?_, bel.frame _, fun h => by cases h⟩
  · rw [List.append_nil, hsp, hres, hrn]; exact trodAll_mk1 (shut_bool Try.u_bool _)
  · rw [List.append_nil, hsp]; exact below_trodAll Try.laidOut bel hpar hA
  · rw [List.append_nil, hsp, hvars]; rfl

/-! ### Arguments read -/
section
variable {H : Type} {enc : TypeId × Value → H} {P : Program} {W : World}
theorem i64_of_wf {n : Int} (h : (Lit.int .i64 n).wf = true) : i64 n := by
  have h1 : IntKind.i64.min = -9223372036854775808 := rfl
  have h2 : IntKind.i64.max = 9223372036854775807 := rfl
  simp only [Lit.wf, Bool.and_eq_true, decide_eq_true_eq, h1, h2] at h
  exact h
theorem trod_SlI {t e : TypeId} (ht : P.underlying t = some (.slice e)) (he : P.underlying e = some (.int .i64)) (hC : P.cellsOf e = 1) {fuel : Nat} {v : Value} {x : DataW H × List MemPlace}
    (h : DataW.trod enc P W 0 (fun _ => true) true fuel t [v] = some x) : ∃ A n c l, v = .slice A n c ∧ SlI W A n c l := by
  rcases open_ints ht he hC h with ⟨hcs, _⟩ | ⟨a, len, cap, zs, hcs, _, hl, hm, hz, _, hcell, hwz⟩
  · cases hcs
    exact ⟨none, 0, 0, [], rfl, SlI.nil W⟩
  · cases hcs
    refine ⟨some a, len, cap, zs.take len, rfl, ⟨⟨by rw [List.length_map, List.length_take]; simp at hz; omega, hl, hm, (fun e => by cases e), fun hn => ?_⟩, by rw [List.length_take]; simp at hz; omega, fun n hn => i64_of_wf (hwz n (List.mem_of_mem_take hn))⟩⟩
    have hz' : zs.length = cap := by simpa using hz
    have h0 := hcell 0 (by omega)
    obtain ⟨b, o, spot⟩ := a
    have hspot : spot = none := by simpa [Addr.add] using World.cell?_spot h0
    subst hspot
    refine ⟨b, o, rfl, ?_, fun j u hu => ?_⟩
    · have := World.block_lt_of_cell? W _ h0
      simpa [Addr.add] using this
    · have hj : j < len := by
        have := (List.getElem?_eq_some_iff.1 hu).1
        rw [List.length_map, List.length_take] at this
        omega
      have hc := hcell j (by omega)
      have hadd : (⟨b, o, none⟩ : Addr).add j = ⟨b, o + j, none⟩ := add_none b o j
      rw [hadd] at hc
      rw [hc, ← hu]
      simp [hj, List.getD, List.getElem?_eq_getElem (show j < zs.length by omega)]
theorem arg_SlI {r : Reach} {base : Nat} {t e : TypeId} (ht : P.underlying t = some (.slice e)) (he : P.underlying e = some (.int .i64)) (hC : P.cellsOf e = 1) {v : Value} {d : DataW H} {p : List MemPlace} (hv : Value.okWide P W r base t v)
    (h : DataW.Trod enc P W 0 (fun _ => true) true t v d p) : ∃ A n c l, v = .slice A n c ∧ SlI W A n c l := by
  obtain ⟨a, len, cap, rfl⟩ := okWide_slice ht hv
  obtain ⟨fuel, hf⟩ := h
  exact trod_SlI ht he hC (fuel := fuel) (by simpa [Value.cells] using hf)
theorem arg_int {r : Reach} {base : Nat} {t : TypeId} (ht : P.underlying t = some (.int .i64)) {v : Value} {d : DataW H} {p : List MemPlace} (hv : Value.okWide P W r base t v)
    (h : DataW.Trod enc P W 0 (fun _ => true) true t v d p) : ∃ n, v = .int .i64 n ∧ i64 n := by
  obtain ⟨n, rfl, _, _, wn⟩ := open_int ht hv h
  exact ⟨n, rfl, i64_of_wf wn⟩
theorem arg_int2 {r : Reach} {base : Nat} {t e : TypeId} (ht : P.underlying t = some (.array 2 e)) (he : P.underlying e = some (.int .i64)) (hC : P.cellsOf e = 1) (hC2 : P.cellsOf t = 2) {v : Value} {d : DataW H} {p : List MemPlace} (hv : Value.okWide P W r base t v)
    (h : DataW.Trod enc P W 0 (fun _ => true) true t v d p) : ∃ x y, v = .agg #[.int .i64 x, .int .i64 y] ∧ i64 x ∧ i64 y := by
  simp only [Value.okWide, ht] at hv
  obtain ⟨cs, rfl, hsz, _⟩ := hv
  obtain ⟨c0, c1, rfl⟩ := array2 (hsz.trans hC2)
  obtain ⟨fuel, hf⟩ := h
  obtain ⟨xs, m, _, _, _, hxl, hx⟩ := DataW.trod_array ht hf
  have h0 := hx 0 (by omega)
  have h1 := hx 1 (by omega)
  rw [hC] at h0 h1
  obtain ⟨n0, e0, _, w0⟩ := DataW.trod_int he (h0.trans (List.getElem?_eq_getElem (by omega)))
  obtain ⟨n1, e1, _, w1⟩ := DataW.trod_int he (h1.trans (List.getElem?_eq_getElem (by omega)))
  simp [Value.cells] at e0 e1
  subst e0 e1
  exact ⟨n0, n1, rfl, i64_of_wf w0, i64_of_wf w1⟩
/-- chunks of one size, chosen one by one, as one list. -/
theorem chunks {p : Nat → List Value → Prop} {size : Nat} : ∀ (len : Nat), (∀ i, i < len → ∃ c, p i c ∧ c.length = size) → ∃ xs : List Value, xs.length = len * size ∧ ∀ i, i < len → p i ((xs.drop (i * size)).take size)
  | 0, _ => ⟨[], by simp, fun i hi => by omega⟩
  | len + 1, h => by
    obtain ⟨xs, hl, hx⟩ := chunks len (fun i hi => h i (by omega))
    obtain ⟨c, hp, hc⟩ := h len (by omega)
    refine ⟨xs ++ c, by rw [List.length_append, hl, hc, Nat.add_mul, Nat.one_mul], fun i hi => ?_⟩
    rcases Nat.lt_or_ge i len with hlt | hge
    · have h1 : (i + 1) * size ≤ len * size := Nat.mul_le_mul_right _ hlt
      rw [Nat.add_mul, Nat.one_mul] at h1
      have : ((xs ++ c).drop (i * size)).take size = (xs.drop (i * size)).take size := by
        rw [List.drop_append_of_le_length (by omega), List.take_append_of_le_length (by rw [List.length_drop]; omega)]
      rw [this]
      exact hx i hlt
    · obtain rfl : i = len := by omega
      rw [← hl, List.drop_left, List.take_of_length_le (by omega)]
      exact hp
/-- a slice of whatever elements: its cells in one row, each element read. -/
theorem trod_Sl {t e size : TypeId} (ht : P.underlying t = some (.slice e)) (hC : P.cellsOf e = size) (hs : 0 < size) {fuel : Nat} {v : Value} {x : DataW H × List MemPlace}
    (h : DataW.trod enc P W 0 (fun _ => true) true fuel t [v] = some x) : ∃ A n c cs, v = .slice A n c ∧ Sl W A n c size cs ∧ ∀ i, i < n → ∃ fuel' y, DataW.trod enc P W 0 (fun _ => true) true fuel' e ((cs.drop (i * size)).take size) = some y := by
  rcases Go.Deep.open_slice ht h with ⟨hcs, _⟩ | ⟨a, len, cap, m, n, D, Pl, hcs, _, hl, hm, hmm, _, hx⟩
  · cases hcs
    exact ⟨none, 0, 0, [], rfl, Sl.nil W size, fun i hi => by omega⟩
  · cases hcs
    rw [hC] at hx
    have hm' : m = cap := by simpa using hmm
    subst hm'
    obtain ⟨xs, hxl, hxp⟩ := chunks (p := fun i c => W.cells? 0 (a.add (i * size)) size = some c ∧ DataW.trod enc P W 0 (fun _ => true) true n e c = some (D i, Pl i)) (size := size) len (fun i hi => by
      obtain ⟨c, h1, h2⟩ := hx i (by omega)
      exact ⟨c, ⟨h1, h2⟩, (World.cells?_some h1).2.1⟩)
    refine ⟨some a, len, m, xs, rfl, ⟨hxl, hl, hm, (fun e => by cases e), fun hn => ?_⟩, fun i hi => ⟨n, _, (hxp i hi).2⟩⟩
    have hat : ∀ j u, xs[j]? = some u → W.cell? (a.add j) = some u := fun j u hu => by
      have hj : j < len * size := by rw [← hxl]; exact (List.getElem?_eq_some_iff.1 hu).1
      have hi : j / size < len := Nat.div_lt_of_lt_mul (by rw [Nat.mul_comm]; exact hj)
      have hr : j % size < size := Nat.mod_lt _ hs
      have hdm : j / size * size + j % size = j := by rw [Nat.mul_comm]; exact Nat.div_add_mod j size
      obtain ⟨_, _, hcell⟩ := World.cells?_some (hxp (j / size) hi).1
      have hc := hcell (j % size) hr
      rw [Go.Deep.add_add, hdm, List.getElem?_take, if_pos hr, List.getElem?_drop, hdm] at hc
      rw [hc]; exact hu
    have h0l : 0 < xs.length := by rw [hxl]; exact Nat.mul_pos hn hs
    have h0 := hat 0 (xs[0]'h0l) (List.getElem?_eq_getElem h0l)
    obtain ⟨b, o, spot⟩ := a
    have hspot : spot = none := by simpa [Addr.add] using World.cell?_spot h0
    subst hspot
    refine ⟨b, o, rfl, ?_, fun j u hu => ?_⟩
    · have := World.block_lt_of_cell? W _ h0
      simpa [Addr.add] using this
    · have hadd : (⟨b, o, none⟩ : Addr).add j = ⟨b, o + j, none⟩ := add_none b o j
      rw [← hadd]; exact hat j u hu
/-- a struct's field: its cells, read. -/
theorem trod_field {t : TypeId} {fs : Array Field} (hu : P.underlying t = some (.struct fs)) {fuel : Nat} {cs : List Value} {x : DataW H × List MemPlace} (h : DataW.trod enc P W 0 (fun _ => true) true fuel t cs = some x)
    (i : Nat) (T off sz : Nat) (hi : (fs[i]?).map (fun f => (f.type, f.offset)) = some (T, off)) (hC : P.cellsOf T = sz) : ∃ n y, DataW.trod enc P W 0 (fun _ => true) true n T ((cs.drop off).take sz) = some y := by
  obtain ⟨xs, n, _, _, _, hxl, hg⟩ := DataW.trod_struct hu h
  cases hf : fs[i]? with
  | none => rw [hf] at hi; cases hi
  | some f =>
    rw [hf] at hi
    simp only [Option.map_some, Option.some.injEq, Prod.mk.injEq] at hi
    obtain ⟨rfl, rfl⟩ := hi
    have hlt : i < xs.length := by rw [hxl]; exact (Array.getElem?_eq_some_iff.1 hf).1
    have := hg i f hf
    rw [hC, List.getElem?_eq_getElem hlt] at this
    exact ⟨n, _, this⟩
theorem trod_slice_one {t e : TypeId} (ht : P.underlying t = some (.slice e)) {fuel : Nat} {v : Value} {x : DataW H × List MemPlace} (h : DataW.trod enc P W 0 (fun _ => true) true fuel t [v] = some x) : v.oneCell' = true := by
  rcases DataW.trod_slice ht h with ⟨hcs, _⟩ | ⟨a, len, cap, elems, rest, n, _, hcs, _⟩
  · cases hcs; rfl
  · cases hcs; rfl
theorem trod_int_one {t : TypeId} {k : IntKind} (ht : P.underlying t = some (.int k)) {fuel : Nat} {v : Value} {x : DataW H × List MemPlace} (h : DataW.trod enc P W 0 (fun _ => true) true fuel t [v] = some x) : ∃ n, v = .int k n ∧ (Lit.int k n).wf = true := by
  obtain ⟨n, e, _, wf⟩ := DataW.trod_int ht h
  cases e
  exact ⟨n, rfl, wf⟩
end
end Go.Proofs.Ytiglabknaldinaa
