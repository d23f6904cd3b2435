/- Regions that draw their order, walked in an order of one's own: ord lists the operations' places. As XMixC, but the fences are fences in that order. -/
import Derived.Test.YtpgglefimdllbaaMixC
namespace Go.Proofs.Ytpgglefimdllbaa
open Go.RowKit
section
variable {P : Program} {ops : Array Oper} {md : Region.Mode}
/-- of a barrier and another operation one waits for the other. -/
def BarP (md : Region.Mode) (ops : Array Oper) (bar : Nat → Nat) : Prop := ∀ i j, 2 ≤ bar j → i < ops.size → j < ops.size → i ≠ j → (reachL md i ops.toList 0 #[]).getD j false = true ∨ (reachL md j ops.toList 0 #[]).getD i false = true
theorem barP_le {bar : Nat → Nat} {listed : Array Bool} {i j : Nat} (hF : BarP md ops bar) (hcl : Closed md ops listed) (hi : i ∈ Region.ready md ops listed) (hj : j ∈ Region.ready md ops listed) (hij : i ≠ j) : bar j ≤ 1 := by
  rcases Nat.lt_or_ge 1 (bar j) with h | h
  · rcases hF i j (by omega) (ready_lt hi) (ready_lt hj) hij with hr | hr
    · rw [fen_pair hcl hi hj hij] at hr
      cases hr
    · rw [fen_pair hcl hj hi (Ne.symm hij)] at hr
      cases hr
  · exact h
theorem anyP_steady {mv : Nat → Bool} {bar : Nat → Nat} (hF : BarP md ops bar) {Q : Act → World → Prop} {i : Nat} {oi : Oper} {v : Value} (hi : ops[i]? = some oi) (hmi : mv i = false) (hci : calm2 oi = true) (hsel : ∀ (j : Nat) (o : Oper) cs b, ops[j]? = some o → o.op ≠ .select cs b) :
    ∀ (fuel : Nat) (C : World → Prop) (listed : Array Bool) (a : Act) (w : World),
      (∀ j oj, ops[j]? = some oj → j ≠ i → listed.getD j true = false → (∀ e ∈ oj.after, Region.binds md e = true → e.on ≠ i) → oi.apart ops oj = true) →
      Closed md ops listed → i ∈ Region.ready md ops listed → YieldsIn P ops C oi v a →
      wpAnyF P md ops mv bar Q fuel C (listed.setIfInBounds i true) (a.put oi.dst v) w → wpAnyF P md ops mv bar Q (fuel + 1) C listed a w := by
  intro fuel
  induction fuel with
  | zero =>
    intro C listed a w _ _ hr hy H
    refine ⟨fun h => (by rw [h] at hr; cases hr), fun j hj => ?_⟩
    by_cases hji : j = i
    · subst hji; rw [hmi, if_neg Bool.false_ne_true]; exact hy.qOp hi H
    · have := ready_mono hj hji
      rw [H.1] at this
      cases this
  | succ fuel ih =>
    intro C listed a w hfree hcl hr hy H
    refine ⟨fun h => (by rw [h] at hr; cases hr), fun j hj => ?_⟩
    by_cases hji : j = i
    · subst hji; rw [hmi, if_neg Bool.false_ne_true]; exact hy.qOp hi H
    · have h1 := H.2 j (ready_mono hj hji)
      obtain ⟨hjun, oj, hoj, hall⟩ := mem_ready.1 hj
      have hap := hfree j oj hoj hji hjun (notOn hr hall)
      obtain ⟨p1, p2, p3⟩ := Oper.apart_spec hap
      have hfree' := free_step (md := md) (ops := ops) (oi := oi) hjun hfree
      have keep : ∀ u, YieldsIn P ops C oi v (a.put oj.dst u) := fun u =>
        hy.of_same (execOp_put oi (fun cs b => hsel i oi cs b hi) a oj.dst u p3) (wanted_put oi a oj.dst u p3)
      cases hmj : mv j
      · rw [hmj, if_neg Bool.false_ne_true] at h1
        rw [if_neg Bool.false_ne_true]
        have h2 := qOp_put hoj hap (fun cs b => hsel i oi cs b hi) (fun cs b => hsel j oj cs b hoj) hy h1
        refine qOp_mono (fun a' h3 => ih C (listed.setIfInBounds j true) a' w hfree' (hcl.step hj) (ready_mono hr (Ne.symm hji)) h3.1 ?_) h2
        rw [Array.setIfInBounds_comm _ _ hji]
        exact h3.2
      · rw [hmj, if_pos rfl] at h1
        rw [if_pos rfl]
        have hbj := barP_le hF hcl hr hj (Ne.symm hji)
        refine mvOp_of_eq hoj (execOp_put oj (fun cs b => hsel j oj cs b hoj) a oi.dst v p1).symm (wanted_put oj a oi.dst v p1).symm (fun u w' hk => ?_) h1
        obtain ⟨C', hC', hw', hk⟩ := hk
        refine ⟨C', hC', hw', ih C' (listed.setIfInBounds j true) (a.put oj.dst u) w' hfree' (hcl.step hj) (ready_mono hr (Ne.symm hji)) (yields_down hci (hC'.2 hbj) (keep u)) ?_⟩
        rw [Array.setIfInBounds_comm _ _ hji, ← Act.put_comm a v u p2]
        exact hk
theorem anyP_moving {mv : Nat → Bool} {bar : Nat → Nat} {C : World → Prop} (hF : BarP md ops bar) {Q : Act → World → Prop} {i : Nat} {oi : Oper} (hi : ops[i]? = some oi) (hmi : mv i = true) (hsel : ∀ (j : Nat) (o : Oper) cs b, ops[j]? = some o → o.op ≠ .select cs b)
    (hcalm : ∀ j o, ops[j]? = some o → mv j = false → calm2 o = true)  :
    ∀ (fuel : Nat) (listed : Array Bool) (a : Act) (w : World),
      (∀ j oj, ops[j]? = some oj → j ≠ i → listed.getD j true = false → (∀ e ∈ oj.after, Region.binds md e = true → e.on ≠ i) → oi.apart ops oj = true) →
      Closed md ops listed → (∀ j, j < ops.size → listed.getD j true = false → j ≠ i → (mv j = true ∨ 1 ≤ bar i) → (reachL md i ops.toList 0 #[]).getD j false = true) → i ∈ Region.ready md ops listed → C w →
      mvOp P ops i (fun a' w' => ∃ C' : World → Prop, Stp (bar i) C C' ∧ C' w' ∧ wpAnyF P md ops mv bar Q fuel C' (listed.setIfInBounds i true) a' w') a w → wpAnyF P md ops mv bar Q (fuel + 1) C listed a w := by
  intro fuel
  induction fuel with
  | zero =>
    intro listed a w _ _ _ hr _ H
    refine ⟨fun h => (by rw [h] at hr; cases hr), fun j hj => ?_⟩
    by_cases hji : j = i
    · subst hji; rw [hmi, if_pos rfl]; exact H
    · obtain ⟨u, w', C', _, _, hk⟩ := mvOp_some hi H
      have := ready_mono hj hji
      rw [hk.1] at this
      cases this
  | succ fuel ih =>
    intro listed a w hfree hcl hlow hr hw H
    refine ⟨fun h => (by rw [h] at hr; cases hr), fun j hj => ?_⟩
    by_cases hji : j = i
    · subst hji; rw [hmi, if_pos rfl]; exact H
    · obtain ⟨hjun, oj, hoj, hall⟩ := mem_ready.1 hj
      have hjsz : j < ops.size := (Array.getElem?_eq_some_iff.1 hoj).1
      have hno := fen_pair hcl hr hj (Ne.symm hji)
      have hmj : mv j = false := by
        cases hmj : mv j with
        | false => rfl
        | true =>
          rw [hlow j hjsz hjun hji (.inl hmj)] at hno
          cases hno
      have hbi : bar i = 0 := by
        rcases Nat.lt_or_ge 0 (bar i) with h | h
        · rw [hlow j hjsz hjun hji (.inr h)] at hno
          cases hno
        · omega
      have hap := hfree j oj hoj hji hjun (notOn hr hall)
      obtain ⟨p1, p2, p3⟩ := Oper.apart_spec hap
      have hsi : ∀ cs b, oi.op ≠ .select cs b := fun cs b => hsel i oi cs b hi
      have hsj : ∀ cs b, oj.op ≠ .select cs b := fun cs b => hsel j oj cs b hoj
      have hr' := ready_mono hj hji
      have move : ∀ u v, YieldsIn P ops C oj v (a.put oi.dst u) → YieldsIn P ops C oj v a := fun u v h =>
        h.of_same (execOp_put oj hsj a oi.dst u p1).symm (wanted_put oj a oi.dst u p1).symm
      obtain ⟨u0, w0, C0, hC0, _, hk0⟩ := mvOp_some hi H
      cases hC0.1 hbi
      have hq := hk0.2 j hr'
      rw [hmj, if_neg Bool.false_ne_true] at hq
      obtain ⟨v, hy, _⟩ := yieldsIn_of_qOp hoj hq
      have hya := move _ _ hy
      rw [hmj, if_neg Bool.false_ne_true]
      refine hya.qOp hoj ?_
      refine ih (listed.setIfInBounds j true) (a.put oj.dst v) w (free_step (md := md) (ops := ops) (oi := oi) hjun hfree) (hcl.step hj) (fun k hks hku hki hor => ?_) (ready_mono hr (Ne.symm hji)) hw ?_
      · refine hlow k hks ?_ hki hor
        by_cases hkj : j = k
        · subst hkj; exact hjun
        · rw [getD_set_ne true hkj] at hku; exact hku
      · refine mvOp_of_eq hi (execOp_put oi hsi a oj.dst v p3) (wanted_put oi a oj.dst v p3) (fun u w' hk => ?_) H
        obtain ⟨C', hC', hw', hk⟩ := hk
        cases hC'.1 hbi
        refine ⟨C, Stp.refl _ _, hw', ?_⟩
        have hq' := hk.2 j hr'
        rw [hmj, if_neg Bool.false_ne_true] at hq'
        obtain ⟨v', hy', hk'⟩ := yieldsIn_of_qOp hoj hq'
        have := yields_det2 hw (hcalm j oj hoj hmj) hya (move _ _ hy')
        subst this
        rw [Array.setIfInBounds_comm _ _ hji, Act.put_comm a v u (fun d hd h => p2 d h hd)]
        exact hk'


def wpMixP (P : Program) (ops : Array Oper) (mv : Nat → Bool) (bar : Nat → Nat) (Q : Act → World → Prop) : List Nat → (World → Prop) → Act → World → Prop
  | [], _, a, w => Q a w
  | i :: r, C, a, w => ∃ o, ops[i]? = some o ∧ if Region.wanted o (yielded ops a.tmps) then (if mv i then wpN P o a w (fun a' w' => ∃ C' : World → Prop, Stp (bar i) C C' ∧ C' w' ∧ wpMixP P ops mv bar Q r C' a' w') else o.quiet P a C (fun a' => wpMixP P ops mv bar Q r C a' w)) else wpMixP P ops mv bar Q r C (a.put o.dst undef) w
/-- the order's checks. -/
def ordFrom (md : Region.Mode) (ops : Array Oper) (mv : Nat → Bool) (bar : Nat → Nat) : List Nat → Array Bool → Bool
  | [], listed => (Region.ready md ops listed).isEmpty
  | i :: r, listed => (Region.ready md ops listed).contains i && Region.free md ops listed i &&
      ((List.range ops.size).all fun j => listed.getD j true || j == i || !(mv i) || !(mv j || decide (1 ≤ bar i)) || (reachL md i ops.toList 0 #[]).getD j false) && ordFrom md ops mv bar r (listed.setIfInBounds i true)
theorem anyP_lex {mv : Nat → Bool} {bar : Nat → Nat} (hF : BarP md ops bar) {Q : Act → World → Prop} (hs : Region.noSelect ops = true) (hcalm : ∀ j o, ops[j]? = some o → mv j = false → calm2 o = true) : ∀ (l : List Nat) (C : World → Prop) (listed : Array Bool) (a : Act) (w : World),
    ordFrom md ops mv bar l listed = true → Closed md ops listed → C w → wpMixP P ops mv bar Q l C a w → wpAnyF P md ops mv bar Q l.length C listed a w
  | [], _, _, _, _, hB, _, _, h => ⟨by simpa [ordFrom] using hB, h⟩
  | k :: l, C, listed, a, w, hB, hcl, hw, h => by
    obtain ⟨o, h0, h⟩ := h
    simp only [ordFrom, Bool.and_eq_true] at hB
    obtain ⟨⟨⟨hr, hf⟩, hm⟩, hB'⟩ := hB
    have hr' : k ∈ Region.ready md ops listed := by simpa using hr
    cases hmk : mv k with
    | false =>
      have hst : qOp P ops C k (fun a' => wpMixP P ops mv bar Q l C a' w) a := by
        unfold qOp
        simp only [h0]
        simp only [hmk, Bool.false_eq_true, if_false] at h
        exact h
      obtain ⟨v, hy, hK⟩ := yieldsIn_of_qOp h0 hst
      exact anyP_steady hF h0 hmk (hcalm k o h0 hmk) (Region.noSelect_spec hs) l.length C listed a w (Region.free_spec h0 hf) hcl hr' hy
        (anyP_lex hF hs hcalm l C _ _ w hB' (hcl.step hr') hw hK)
    | true =>
      have hmvo : mvOp P ops k (fun a' w' => ∃ C' : World → Prop, Stp (bar k) C C' ∧ C' w' ∧ wpMixP P ops mv bar Q l C' a' w') a w := by
        unfold mvOp
        simp only [h0]
        simp only [hmk, if_true] at h
        split
        · rename_i hwd; rw [if_pos hwd] at h; exact h
        · rename_i hwd; rw [if_neg hwd] at h; exact ⟨C, Stp.refl _ _, hw, h⟩
      simp only [List.all_eq_true, List.mem_range] at hm
      refine anyP_moving hF h0 hmk (Region.noSelect_spec hs) hcalm l.length listed a w (Region.free_spec h0 hf) hcl (fun j hjs hju hji hor => ?_) hr' hw
        (mvOp_mono (fun a' w' hk => by
          obtain ⟨C', hC', hw', hk⟩ := hk
          exact ⟨C', hC', hw', anyP_lex hF hs hcalm l C' _ _ w' hB' (hcl.step hr') hw' hk⟩) hmvo)
      have := hm j hjs
      have hji' : (j == k) = false := by simpa using hji
      have hor' : (mv j || decide (1 ≤ bar k)) = true := by
        rcases hor with h | h
        · rw [h]; rfl
        · rw [decide_eq_true h]; simp
      rw [hju, hji', hmk, hor'] at this
      simpa using this
def barPB (ops : Array Oper) (bar : Nat → Nat) : Bool := (List.range ops.size).all fun j => !(decide (2 ≤ bar j)) || (List.range ops.size).all fun i => i == j || (reachL .any i ops.toList 0 #[]).getD j false || (reachL .any j ops.toList 0 #[]).getD i false
theorem barPB_ok {bar : Nat → Nat} (h : barPB ops bar = true) : BarP .any ops bar := fun i j hj hi hjs hij => by
  simp only [barPB, List.all_eq_true, List.mem_range, Bool.or_eq_true, Bool.not_eq_true', decide_eq_false_iff_not, beq_iff_eq] at h
  rcases h j hjs with h1 | h1
  · exact absurd hj h1
  · rcases h1 i hi with (h2 | h2) | h2
    · exact absurd h2 hij
    · exact .inl h2
    · exact .inr h2
end
/-- the operations in that order -/
def permL (l : List Oper) : List Nat → List Oper
  | [] => []
  | i :: r => (l.drop i).take 1 ++ permL l r
theorem permL_get {l : List Oper} : ∀ (ord : List Nat), (∀ i ∈ ord, i < l.length) → ∀ k : Nat, (permL l ord)[k]? = (ord[k]?).bind (fun (i : Nat) => l[i]?)
  | [], _, k => by simp [permL]
  | i :: r, h, k => by
    have hi : i < l.length := h i (by simp)
    have e : (l.drop i).take 1 = [l[i]] := by rw [List.drop_eq_getElem_cons hi]; rfl
    unfold permL
    rw [e]
    cases k with
    | zero => simp [hi]
    | succ k =>
      have := permL_get r (fun j hj => h j (by simp [hj])) k
      simpa using this
theorem permL_len {l : List Oper} : ∀ (ord : List Nat), (∀ i ∈ ord, i < l.length) → (permL l ord).length = ord.length
  | [], _ => rfl
  | i :: r, h => by
    have hi := h i (by simp)
    rw [show permL l (i :: r) = (l.drop i).take 1 ++ permL l r from rfl, List.length_append, permL_len r (fun j hj => h j (by simp [hj])), List.length_take, List.length_drop, List.length_cons]
    omega
section
variable {P : Program} {ops : Array Oper}
theorem mixP_of_F {mvK : Nat → Bool} {barK : Nat → Nat} {mv : Nat → Bool} {bar : Nat → Nat} {Q : Act → World → Prop} : ∀ (ord : List Nat) (l : List Oper) (k : Nat) (C : World → Prop) (a : Act) (w : World), (∀ j : Nat, l[j]? = (ord[j]?).bind (fun (i : Nat) => ops[i]?)) → l.length = ord.length → (∀ j i : Nat, ord[j]? = some i → mvK (k + j) = mv i ∧ barK (k + j) = bar i) →
    wpMixF P ops mvK barK Q l k C a w → wpMixP P ops mv bar Q ord C a w
  | [], [], _, _, _, _, _, _, _, h => h
  | [], _ :: _, _, _, _, _, _, hl, _, _ => by simp at hl
  | _ :: _, [], _, _, _, _, _, hl, _, _ => by simp at hl
  | i :: ord, o :: l, k, C, a, w, hg, hl, hm, h => by
    have h0 : ops[i]? = some o := by have := hg 0; simpa using this.symm
    obtain ⟨m0, b0⟩ := hm 0 i rfl
    rw [Nat.add_zero] at m0 b0
    have hg' : ∀ j : Nat, l[j]? = (ord[j]?).bind (fun (i : Nat) => ops[i]?) := fun j => by have := hg (j + 1); simpa using this
    have hm' : ∀ j i : Nat, ord[j]? = some i → mvK (k + 1 + j) = mv i ∧ barK (k + 1 + j) = bar i := fun j i hi => by have := hm (j + 1) i (by simpa using hi); rwa [show k + (j + 1) = k + 1 + j by omega] at this
    have hl' : l.length = ord.length := by simpa using hl
    unfold wpMixF at h
    refine ⟨o, h0, ?_⟩
    split
    · rename_i hw
      rw [if_pos hw] at h
      rw [← m0]
      split
      · rename_i hmv
        rw [if_pos hmv] at h
        refine wpN_mono (fun u w' hk => ?_) h
        obtain ⟨C', hC', hw', hk⟩ := hk
        exact ⟨C', by rw [← b0]; exact hC', hw', mixP_of_F ord l (k + 1) C' _ w' hg' hl' hm' hk⟩
      · rename_i hmv
        rw [if_neg hmv] at h
        exact Oper.quiet_mono (fun a' h' => mixP_of_F ord l (k + 1) C a' w hg' hl' hm' h') h
    · rename_i hw
      rw [if_neg hw] at h
      exact mixP_of_F ord l (k + 1) C _ w hg' hl' hm' h
end
/-- all checks of an order and its segments. -/
def permB (l : List Oper) (ord : List Nat) (ns : List (Nat × Nat)) : Bool :=
  decide (ord.length = l.length) && (ord.all fun i => decide (i < l.length)) && ((List.range ord.length).all fun k => (ord.getD k 0 |> fun i => ord.idxOf i == k)) && Region.noSelect l.toArray &&
  ((List.range l.length).all fun j => mvOf (ns.map Prod.fst) (ord.idxOf j) || (l[j]?).all calm2) && ordFrom .any l.toArray (fun i => mvOf (ns.map Prod.fst) (ord.idxOf i)) (fun i => kindOf ns (ord.idxOf i)) ord (Array.replicate l.length false) && barPB l.toArray (fun i => kindOf ns (ord.idxOf i))
/-- the region's walk in the order ord, with fences and barriers. -/
theorem wp_region_ord {P : Program} {id : Nat} {Q : Exit → Act → World → Prop} {a : Act} {w : World} {l : List Oper} (S : Nat → Prop) [DecidablePred S] (ord : List Nat) (ns : List (Nat × Nat)) (hm : P.follows .mixedOrders = true) (hB : permB l ord ns = true)
    (h : wpSegsF P l.toArray (fun a' w' => Q .normal a' w') ns (fun w' => ∃ x, w' = graft S w x) (permL l ord) a w.drew) : (Code.region id l.toArray true).wp P Q a w := by
  simp only [permB, Bool.and_eq_true, List.all_eq_true, List.mem_range, decide_eq_true_eq] at hB
  obtain ⟨⟨⟨⟨⟨⟨hlen, hin⟩, hidx⟩, hsel⟩, hcal⟩, hord⟩, hbar⟩ := hB
  have hcalm : ∀ j o, (l.toArray)[j]? = some o → mvOf (ns.map Prod.fst) (ord.idxOf j) = false → calm2 o = true := fun j o ho hmj => by
    have hj : j < l.length := by have := (Array.getElem?_eq_some_iff.1 ho).1; simpa using this
    have := hcal j hj
    have ho' : l[j]? = some o := by simpa using ho
    rw [hmj, ho'] at this
    simpa using this
  have hid : ∀ k i : Nat, ord[k]? = some i → ord.idxOf i = k := fun k i hk => by
    have hlt := (List.getElem?_eq_some_iff.1 hk).1
    have := hidx k hlt
    rw [List.getD_eq_getElem?_getD, hk] at this
    simpa using this
  have hmix := mixF_of_segs (P := P) (ops := l.toArray) (mv := mvOf (ns.map Prod.fst)) (bar := kindOf ns) ns _ (permL l ord) 0 a w.drew (by simp) (by simp) h
  have hpl := permL_len ord hin
  have hP := mixP_of_F (P := P) (ops := l.toArray) (mvK := mvOf (ns.map Prod.fst)) (barK := kindOf ns) (mv := fun i => mvOf (ns.map Prod.fst) (ord.idxOf i)) (bar := fun i => kindOf ns (ord.idxOf i)) ord (permL l ord) 0 _ a w.drew (fun j => by rw [permL_get ord hin j]; simp) hpl (fun j i hi => by rw [Nat.zero_add, hid j i hi]; exact ⟨rfl, rfl⟩) hmix
  refine wp_region_any hm (wpAny_of_F (bar := fun i => kindOf ns (ord.idxOf i)) hcalm (Q := fun a' w' => Q .normal a' w') (fun _ _ h => h) _ (fun w' => ∃ x, w' = graft S w x) _ _ _ (fr_graft (Fr.drew (Fr.refl S w))) ?_)
  have := anyP_lex (md := .any) (barPB_ok hbar) hsel hcalm ord _ (Array.replicate l.length false) a w.drew hord
    (fun j o _ hj => by
      exfalso
      by_cases hjs : j < l.length
      · simp [hjs] at hj
      · simp [hjs] at hj) (fr_graft (Fr.drew (Fr.refl S w))) hP
  rw [hlen] at this
  simpa using this
end Go.Proofs.Ytpgglefimdllbaa
