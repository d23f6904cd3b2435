/- From a law's walk to its row: the law returns true and leaves all that was there as it was; and how arguments are read. -/
import Derived.Test.YtkmfpchcnbippaaRows
import Derived.Test.YtkmfpchcnbippaaBase
import Derived.ProofKit
import Derived.OpenShut
import Derived.ShutString
import Derived.ChangeOld
import Derived.Lib.SmallJoins
namespace Go.Proofs.Ytkmfpchcnbippaa
open Go.ChangeShapes Go.WideShapes Go.ChangeAt Go.RowKit Go.Joins
open Go.ChangeMaps (open_string shut_string)

theorem Try.own : ownKnob Try.prog.godebug = none := by kernel_rfl
theorem Try.laidOut : laidOutB Try.prog = true := by kernel_rfl
theorem Try.u_bool : Try.prog.underlying 4 = some .bool := by kernel_rfl

theorem below_trodAll {P : Program} (hlo : laidOutB P = true) {H : Type} {enc : TypeId × Value → H} {W W' : World} (hb : Below W.heap.size W W') : ∀ {ts : List TypeId} {vs : List Value} {ds : List (DataW H)} {ps : List MemPlace},
    (ts.all fun t => P.readableRec t && decide (t < P.types.size)) = true → DataW.TrodAll enc P W 0 (fun _ => true) true ts vs ds ps → DataW.TrodAll enc P W' 0 (fun b => decide (b < W.heap.size)) true ts vs ds ps
  | [], vs, ds, ps, _, h => by
    obtain ⟨rfl, rfl, rfl⟩ := trodAll_nil h
    exact trodAll_mk0
  | t :: ts, vs, ds, ps, ht, h => by
    obtain ⟨v, vs', d, ds', p, q, rfl, rfl, rfl, h0, h1⟩ := trodAll_cons h
    rw [List.all_cons, Bool.and_eq_true, Bool.and_eq_true, decide_eq_true_eq] at ht
    have lt0 : ∀ x ∈ p, x.block < W.heap.size := by obtain ⟨m, hm⟩ := h0; exact DataW.trod_lt m _ _ _ hm
    exact trodAll_cons_mk (Below.trod hlo ht.1.1 ht.1.2 h0 hb lt0) (below_trodAll hlo hb ht.2 h1)
theorem trodAll_len {P : Program} {H : Type} {enc : TypeId × Value → H} {W : World} : ∀ {ts : List TypeId} {vs : List Value} {ds : List (DataW H)} {ps : List MemPlace}, DataW.TrodAll enc P W 0 (fun _ => true) true ts vs ds ps → ds.length = ts.length
  | [], vs, ds, ps, h => by
    obtain ⟨rfl, rfl, rfl⟩ := trodAll_nil h
    rfl
  | t :: ts, vs, ds, ps, h => by
    obtain ⟨v, vs', d, ds', p, q, rfl, rfl, rfl, h0, h1⟩ := trodAll_cons h
    rw [List.length_cons, List.length_cons, trodAll_len h1]

theorem law_lifted (f : FuncId) (fn : Func) (s : ChangeSpec) (os : Os) (started : os.Started) (H : Type) (enc : TypeId × Value → H) (hvars : s.vars = [])
    (hfn : Try.checked.prog.funcs[f]? = some fn) (hini : Try.checked.prog.inits.idxOf? f = none) (hres : fn.resultTypes.toList = [4]) (hrn : fn.resultTypes.size = 1)
    (hpar : (fn.params.toList.all fun t => Try.prog.readableRec t && decide (t < Try.prog.types.size)) = true)
    (hspec : ∀ ds : List (DataW H), ds.length = fn.params.toList.length → s.fn H ds = { results := [.lit (.bool true)], args := ds })
    (witness : ∃ (w : World) (tape : Tape) (i : Input), w.os = os ∧ (w.forCall tape i).Shaped Try.checked.prog ∧ i.vars = [] ∧ Input.okWide Try.checked.prog (w.forCall tape i) .any w.heap.size f i ∧
      s.pre6 enc Try.checked.prog fn [] false (w.forCall tape i).memory i.args ∧ ({} : Assume).holds Try.checked.prog (lone (Frame.enter Try.checked.prog f i.args .normal) [] (w.forCall tape i)))
    (contract : ∀ (W : World) (base : Nat) (args : Array Value) (ds : List (DataW H)) (ps : List MemPlace),
      (∀ (j : Nat) t v, fn.params[j]? = some t → args[j]? = some v → Value.okWide Try.prog W .any base t v) → DataW.TrodAll enc Try.prog W 0 (fun _ => true) true fn.params.toList args.toList ds ps →
      Calls Try.prog f args W fun e W' => e = .returned (.bool true) ∧ Below W.heap.size W W') :
    ReturnsInHanded {} Try.checked os f .any (s.pre6 enc Try.prog fn [] false) (s.post enc Try.prog fn false true false false) := by
  refine returnsInHanded_of_change (C := Try.checked) Try.own started hini hfn witness ?_
  intro W base args ds gs before hval hW _ _
  have hW' := hW
  obtain ⟨p, q, hA, hV, rfl, hfz, hnd⟩ := hW
  rw [hvars] at hV
  obtain ⟨rfl, rfl⟩ := trodVars_none hV
  refine (contract W base args ds p hval hA).mono fun e W' ⟨he, bel⟩ => ?_
  subst he
  have hlen : ds.length = fn.params.toList.length := trodAll_len hA
  have hsp := hspec ds hlen
  refine ⟨_, rfl, ds, [], _, [], p, [], hW', ?_, ?_, ?_, bel.frame _, fun h => by cases h⟩
  · rw [List.append_nil, hsp, hres, hrn]; exact trodAll_mk1 (shut_bool Try.u_bool _)
  · rw [List.append_nil, hsp]; exact below_trodAll Try.laidOut bel hpar hA
  · rw [List.append_nil, hsp, hvars]; rfl

/-! ### Arguments read -/
section
variable {H : Type} {enc : TypeId × Value → H} {P : Program} {W : World}
theorem i64_of_wf {n : Int} (h : (Lit.int .i64 n).wf = true) : i64 n := by
  have h1 : IntKind.i64.min = -9223372036854775808 := rfl
  have h2 : IntKind.i64.max = 9223372036854775807 := rfl
  simp only [Lit.wf, Bool.and_eq_true, decide_eq_true_eq, h1, h2] at h
  exact h
theorem trod_SlI {t e : TypeId} (ht : P.underlying t = some (.slice e)) (he : P.underlying e = some (.int .i64)) (hC : P.cellsOf e = 1) {fuel : Nat} {v : Value} {x : DataW H × List MemPlace}
    (h : DataW.trod enc P W 0 (fun _ => true) true fuel t [v] = some x) : ∃ A n c l, v = .slice A n c ∧ SlI W A n c l := by
  rcases open_ints ht he hC h with ⟨hcs, _⟩ | ⟨a, len, cap, zs, hcs, _, hl, hm, hz, _, hcell, hwz⟩
  · cases hcs
    exact ⟨none, 0, 0, [], rfl, SlI.nil W⟩
  · cases hcs
    refine ⟨some a, len, cap, zs.take len, rfl, ⟨⟨by rw [List.length_map, List.length_take]; simp at hz; omega, hl, hm, (fun e => by cases e), fun hn => ?_⟩, by rw [List.length_take]; simp at hz; omega, fun n hn => i64_of_wf (hwz n (List.mem_of_mem_take hn))⟩⟩
    have hz' : zs.length = cap := by simpa using hz
    have h0 := hcell 0 (by omega)
    obtain ⟨b, o, spot⟩ := a
    have hspot : spot = none := by simpa [Addr.add] using World.cell?_spot h0
    subst hspot
    refine ⟨b, o, rfl, ?_, fun j u hu => ?_⟩
    · have := World.block_lt_of_cell? W _ h0
      simpa [Addr.add] using this
    · have hj : j < len := by
        have := (List.getElem?_eq_some_iff.1 hu).1
        rw [List.length_map, List.length_take] at this
        omega
      have hc := hcell j (by omega)
      have hadd : (⟨b, o, none⟩ : Addr).add j = ⟨b, o + j, none⟩ := by unfold Addr.add; split <;> simp_all
      rw [hadd] at hc
      rw [hc, ← hu]
      simp [List.getElem?_take, hj, List.getD, List.getElem?_eq_getElem (show j < zs.length by omega)]
theorem arg_SlI {r : Reach} {base : Nat} {t e : TypeId} (ht : P.underlying t = some (.slice e)) (he : P.underlying e = some (.int .i64)) (hC : P.cellsOf e = 1) {v : Value} {d : DataW H} {p : List MemPlace} (hv : Value.okWide P W r base t v)
    (h : DataW.Trod enc P W 0 (fun _ => true) true t v d p) : ∃ A n c l, v = .slice A n c ∧ SlI W A n c l := by
  obtain ⟨a, len, cap, rfl⟩ := okWide_slice ht hv
  obtain ⟨fuel, hf⟩ := h
  exact trod_SlI ht he hC (fuel := fuel) (by simpa [Value.cells] using hf)
theorem arg_int {r : Reach} {base : Nat} {t : TypeId} (ht : P.underlying t = some (.int .i64)) {v : Value} {d : DataW H} {p : List MemPlace} (hv : Value.okWide P W r base t v)
    (h : DataW.Trod enc P W 0 (fun _ => true) true t v d p) : ∃ n, v = .int .i64 n ∧ i64 n := by
  obtain ⟨n, rfl, _, _, wn⟩ := open_int ht hv h
  exact ⟨n, rfl, i64_of_wf wn⟩
theorem arg_int2 {r : Reach} {base : Nat} {t e : TypeId} (ht : P.underlying t = some (.array 2 e)) (he : P.underlying e = some (.int .i64)) (hC : P.cellsOf e = 1) (hC2 : P.cellsOf t = 2) {v : Value} {d : DataW H} {p : List MemPlace} (hv : Value.okWide P W r base t v)
    (h : DataW.Trod enc P W 0 (fun _ => true) true t v d p) : ∃ x y, v = .agg #[.int .i64 x, .int .i64 y] ∧ i64 x ∧ i64 y := by
  simp only [Value.okWide, ht] at hv
  obtain ⟨cs, rfl, hsz, _⟩ := hv
  obtain ⟨c0, c1, rfl⟩ := array2 (hsz.trans hC2)
  obtain ⟨fuel, hf⟩ := h
  obtain ⟨xs, m, _, _, _, hxl, hx⟩ := DataW.trod_array ht hf
  have h0 := hx 0 (by omega)
  have h1 := hx 1 (by omega)
  rw [hC] at h0 h1
  obtain ⟨n0, e0, _, w0⟩ := DataW.trod_int he (h0.trans (List.getElem?_eq_getElem (by omega)))
  obtain ⟨n1, e1, _, w1⟩ := DataW.trod_int he (h1.trans (List.getElem?_eq_getElem (by omega)))
  simp [Value.cells] at e0 e1
  subst e0 e1
  exact ⟨n0, n1, rfl, i64_of_wf w0, i64_of_wf w1⟩
end
end Go.Proofs.Ytkmfpchcnbippaa
