/- Regions that draw their order and hold one FREE moving operation p (an allocation that waits for nothing), beside a chain of others: the walk is done once for each place in the chain at which p may come. -/
import Derived.Test.YtiglabknaldinaaMixC
namespace Go.Proofs.Ytiglabknaldinaa
open Go.RowKit
section
variable {P : Program} {ops : Array Oper} {md : Region.Mode}
theorem anyF_fuel {mv : Nat → Bool} {bar : Nat → Nat} {Q : Act → World → Prop} : ∀ (fuel : Nat) (C : World → Prop) (listed : Array Bool) (a : Act) (w : World), wpAnyF P md ops mv bar Q fuel C listed a w → wpAnyF P md ops mv bar Q (fuel + 1) C listed a w
  | 0, C, listed, a, w, h => ⟨fun _ => h.2, fun i hi => by rw [h.1] at hi; cases hi⟩
  | fuel + 1, C, listed, a, w, h => ⟨h.1, fun i hi => by
      have h1 := h.2 i hi
      split
      · rename_i hm
        rw [if_pos hm] at h1
        exact mvOp_mono (fun a' w' ⟨C', h2, h3, h4⟩ => ⟨C', h2, h3, anyF_fuel fuel _ _ _ _ h4⟩) h1
      · rename_i hm
        rw [if_neg hm] at h1
        exact qOp_mono (fun a' h2 => anyF_fuel fuel _ _ _ _ h2) h1⟩
/-- a moving operation i, beside which only the free one, p, may move. -/
theorem anyF_moving2 {mv : Nat → Bool} {bar : Nat → Nat} {C : World → Prop} (hF : FenOk md ops bar) {Q : Act → World → Prop} {i p : Nat} {oi op : Oper} (hi : ops[i]? = some oi) (hop : ops[p]? = some op) (hmi : mv i = true) (hmp : mv p = true) (hbp : bar p = 0) (hsel : ∀ (j : Nat) (o : Oper) cs b, ops[j]? = some o → o.op ≠ .select cs b)
    (hcalm : ∀ j o, ops[j]? = some o → mv j = false → calm2 o = true) (hreach : ∀ j, i < j → j ≠ p → j < ops.size → mv j = true → (reachL md i ops.toList 0 #[]).getD j false = true) :
    ∀ (fuel : Nat) (listed : Array Bool) (a : Act) (w : World),
      (∀ j oj, ops[j]? = some oj → j ≠ i → listed.getD j true = false → (∀ e ∈ oj.after, Region.binds md e = true → e.on ≠ i) → oi.apart ops oj = true) →
      (listed.getD p true = false → ∀ j oj, ops[j]? = some oj → j ≠ p → listed.getD j true = false → (∀ e ∈ oj.after, Region.binds md e = true → e.on ≠ p) → op.apart ops oj = true) →
      Closed md ops listed → (∀ j, j < i → j ≠ p → listed.getD j true = true) → i ∈ Region.ready md ops listed → (listed.getD p true = true ∨ p ∈ Region.ready md ops listed) → C w →
      mvOp P ops i (fun a' w' => ∃ C' : World → Prop, Stp (bar i) C C' ∧ C' w' ∧ wpAnyF P md ops mv bar Q fuel C' (listed.setIfInBounds i true) a' w') a w →
      (listed.getD p true = false → mvOp P ops p (fun a' w' => ∃ C' : World → Prop, Stp (bar p) C C' ∧ C' w' ∧ wpAnyF P md ops mv bar Q fuel C' (listed.setIfInBounds p true) a' w') a w) →
      wpAnyF P md ops mv bar Q (fuel + 1) C listed a w := by
  intro fuel
  induction fuel with
  | zero =>
    intro listed a w hfree hfreep hcl hlow hr hrp hw H Hp
    refine ⟨fun h => (by rw [h] at hr; cases hr), fun j hj => ?_⟩
    by_cases hji : j = i
    · subst hji; rw [hmi, if_pos rfl]; exact H
    · by_cases hjp : j = p
      · subst hjp; rw [hmp, if_pos rfl]; exact Hp (mem_ready.1 hj).1
      · obtain ⟨u, w', C', _, _, hk⟩ := mvOp_some hi H
        have := ready_mono hj hji
        rw [hk.1] at this
        cases this
  | succ fuel ih =>
    intro listed a w hfree hfreep hcl hlow hr hrp hw H Hp
    refine ⟨fun h => (by rw [h] at hr; cases hr), fun j hj => ?_⟩
    by_cases hji : j = i
    · subst hji; rw [hmi, if_pos rfl]; exact H
    · by_cases hjp : j = p
      · subst hjp; rw [hmp, if_pos rfl]; exact Hp (mem_ready.1 hj).1
      · obtain ⟨hjun, oj, hoj, hall⟩ := mem_ready.1 hj
        have hjsz : j < ops.size := (Array.getElem?_eq_some_iff.1 hoj).1
        have hij : i < j := by
          rcases Nat.lt_or_ge j i with h | h
          · rw [hlow j h hjp] at hjun; cases hjun
          · omega
        have hmj : mv j = false := by
          cases hmj : mv j with
          | false => rfl
          | true =>
            have := reach_listed (reach_ok (md := md) (ops := ops) i) hcl (j + 1) j (by omega) (hreach j hij hjp hjsz hmj) (by omega) (fun o ho e he hb => by rw [hoj] at ho; cases ho; exact hall e he hb)
            have h0 := (mem_ready.1 hr).1
            rw [getD_true this] at h0
            cases h0
        have hbi := fen_plain hF hcl hr hj hij
        have hap := hfree j oj hoj hji hjun (notOn hr hall)
        obtain ⟨p1, p2, p3⟩ := Oper.apart_spec hap
        have hsi : ∀ cs b, oi.op ≠ .select cs b := fun cs b => hsel i oi cs b hi
        have hsj : ∀ cs b, oj.op ≠ .select cs b := fun cs b => hsel j oj cs b hoj
        have hsp : ∀ cs b, op.op ≠ .select cs b := fun cs b => hsel p op cs b hop
        have hr' := ready_mono hj hji
        have move : ∀ u v, YieldsIn P ops C oj v (a.put oi.dst u) → YieldsIn P ops C oj v a := fun u v h =>
          h.of_same (execOp_put oj hsj a oi.dst u p1).symm (wanted_put oj a oi.dst u p1).symm
        obtain ⟨u0, w0, C0, hC0, _, hk0⟩ := mvOp_some hi H
        cases hC0.1 hbi
        have hq := hk0.2 j hr'
        rw [hmj, if_neg Bool.false_ne_true] at hq
        obtain ⟨v, hy, _⟩ := yieldsIn_of_qOp hoj hq
        have hya := move _ _ hy
        rw [hmj, if_neg Bool.false_ne_true]
        refine hya.qOp hoj ?_
        refine ih (listed.setIfInBounds j true) (a.put oj.dst v) w (free_step (md := md) (ops := ops) (oi := oi) hjun hfree) (fun h => free_step (md := md) (ops := ops) (oi := op) hjun (hfreep (by rw [getD_set_ne true hjp] at h; exact h))) (hcl.step hj) (fun k hk hkp => ?_) (ready_mono hr (Ne.symm hji)) ?_ hw ?_ ?_
        · by_cases hkj : j = k
          · omega
          · rw [getD_set_ne true hkj]; exact hlow k hk hkp
        · rcases hrp with h | h
          · exact .inl (by rw [getD_set_ne true hjp]; exact h)
          · exact .inr (ready_mono h (Ne.symm hjp))
        · refine mvOp_of_eq hi (execOp_put oi hsi a oj.dst v p3) (wanted_put oi a oj.dst v p3) (fun u w' hk => ?_) H
          obtain ⟨C', hC', hw', hk⟩ := hk
          cases hC'.1 hbi
          refine ⟨C, Stp.refl _ _, hw', ?_⟩
          have hq' := hk.2 j hr'
          rw [hmj, if_neg Bool.false_ne_true] at hq'
          obtain ⟨v', hy', hk'⟩ := yieldsIn_of_qOp hoj hq'
          have := yields_det2 hw (hcalm j oj hoj hmj) hya (move _ _ hy')
          subst this
          rw [Array.setIfInBounds_comm _ _ hji, Act.put_comm a v u (fun d hd h => p2 d h hd)]
          exact hk'
        · intro hun
          rw [getD_set_ne true hjp] at hun
          have hrp' : p ∈ Region.ready md ops listed := hrp.resolve_left (fun h => by rw [h] at hun; cases hun)
          have hapP := hfreep hun j oj hoj hjp hjun (notOn hrp' hall)
          obtain ⟨q1, q2, q3⟩ := Oper.apart_spec hapP
          have movep : ∀ u v, YieldsIn P ops C oj v (a.put op.dst u) → YieldsIn P ops C oj v a := fun u v h =>
            h.of_same (execOp_put oj hsj a op.dst u q1).symm (wanted_put oj a op.dst u q1).symm
          refine mvOp_of_eq hop (execOp_put op hsp a oj.dst v q3) (wanted_put op a oj.dst v q3) (fun u w' hk => ?_) (Hp hun)
          obtain ⟨C', hC', hw', hk⟩ := hk
          cases hC'.1 hbp
          refine ⟨C, Stp.refl _ _, hw', ?_⟩
          have hq' := hk.2 j (ready_mono hj hjp)
          rw [hmj, if_neg Bool.false_ne_true] at hq'
          obtain ⟨v', hy', hk'⟩ := yieldsIn_of_qOp hoj hq'
          have := yields_det2 hw (hcalm j oj hoj hmj) hya (movep _ _ hy')
          subst this
          rw [Array.setIfInBounds_comm _ _ hjp, Act.put_comm a v u (fun d hd h => q2 d h hd)]
          exact hk'
/-- behind the free operation: its place in the text is passed over. -/
def wpMixE1 (P : Program) (ops : Array Oper) (mv : Nat → Bool) (bar : Nat → Nat) (p : Nat) (Q : Act → World → Prop) : List Oper → Nat → (World → Prop) → Act → World → Prop
  | [], _, _, a, w => Q a w
  | o :: r, k, C, a, w => if k = p then wpMixE1 P ops mv bar p Q r (k + 1) C a w else
    if Region.wanted o (yielded ops a.tmps) then (if mv k then wpN P o a w (fun a' w' => ∃ C' : World → Prop, Stp (bar k) C C' ∧ C' w' ∧ wpMixE1 P ops mv bar p Q r (k + 1) C' a' w') else o.quiet P a C (fun a' => wpMixE1 P ops mv bar p Q r (k + 1) C a' w)) else wpMixE1 P ops mv bar p Q r (k + 1) C (a.put o.dst undef) w
def wpMixE0 (P : Program) (ops : Array Oper) (mv : Nat → Bool) (bar : Nat → Nat) (p : Nat) (Q : Act → World → Prop) : List Oper → Nat → (World → Prop) → Act → World → Prop
  | [], _, _, a, w => Q a w
  | o :: r, k, C, a, w => if k = p then wpN P o a w (fun a' w' => C w' ∧ wpMixE1 P ops mv bar p Q r (k + 1) C a' w') else
    if mv k then mvOp P ops p (fun a' w' => C w' ∧ wpMixE1 P ops mv bar p Q (o :: r) k C a' w') a w ∧
      (if Region.wanted o (yielded ops a.tmps) then wpN P o a w (fun a' w' => ∃ C' : World → Prop, Stp (bar k) C C' ∧ C' w' ∧ wpMixE0 P ops mv bar p Q r (k + 1) C' a' w') else wpMixE0 P ops mv bar p Q r (k + 1) C (a.put o.dst undef) w)
    else if Region.wanted o (yielded ops a.tmps) then o.quiet P a C (fun a' => wpMixE0 P ops mv bar p Q r (k + 1) C a' w) else wpMixE0 P ops mv bar p Q r (k + 1) C (a.put o.dst undef) w
def mixE (md : Region.Mode) (ops : Array Oper) (mv : Nat → Bool) (p : Nat) (done : Bool) : Nat → Nat → Array Bool → Bool
  | 0, _, listed => (Region.ready md ops listed).isEmpty
  | fuel + 1, k, listed => if k = p && done then mixE md ops mv p done fuel (k + 1) listed else
      (Region.ready md ops listed).contains k && Region.free md ops listed k && (listed.getD p true || Region.free md ops listed p) &&
      (!mv k || (List.range ops.size).all fun j => !(decide (k < j) && mv j && !(j == p)) || (reachL md k ops.toList 0 #[]).getD j false) && mixE md ops mv p done fuel (k + 1) (listed.setIfInBounds k true)
theorem anyE1_lex {mv : Nat → Bool} {bar : Nat → Nat} {p : Nat} {op : Oper} (hop : ops[p]? = some op) (hmp : mv p = true) (hbp : bar p = 0) (hF : FenOk md ops bar) {Q : Act → World → Prop} (hs : Region.noSelect ops = true) (hcalm : ∀ j o, ops[j]? = some o → mv j = false → calm2 o = true) : ∀ (l : List Oper) (n k : Nat) (C : World → Prop) (listed : Array Bool) (a : Act) (w : World), (∀ j, l[j]? = ops[k + j]?) →
    n + (if k ≤ p then 1 else 0) = l.length → mixE md ops mv p true l.length k listed = true → Closed md ops listed → (∀ j, j < k → listed.getD j true = true) → listed.getD p true = true → C w → wpMixE1 P ops mv bar p Q l k C a w → wpAnyF P md ops mv bar Q n C listed a w
  | [], n, k, _, _, _, _, _, hn, hB, _, _, _, _, h => by
    obtain rfl : n = 0 := by simp at hn; omega
    exact ⟨by simpa [mixE] using hB, h⟩
  | o :: l, n, k, C, listed, a, w, hl, hn, hB, hcl, hlow, hlp, hw, h => by
    have h0 : ops[k]? = some o := by simpa using (hl 0).symm
    have hl' : ∀ j, l[j]? = ops[k + 1 + j]? := fun j => by have := hl (j + 1); simpa [Nat.add_assoc, Nat.add_comm 1 j] using this
    rw [List.length_cons] at hn
    by_cases hkp : k = p
    · subst hkp
      simp only [List.length_cons, mixE, decide_true, Bool.true_and, if_true] at hB
      unfold wpMixE1 at h
      rw [if_pos rfl] at h
      rw [if_pos (Nat.le_refl _)] at hn
      refine anyE1_lex hop hmp hbp hF hs hcalm l n (k + 1) C listed a w hl' (by rw [if_neg (by omega)]; omega) hB hcl (fun j hj => ?_) hlp hw h
      rcases Nat.lt_or_ge j k with h1 | h1
      · exact hlow j h1
      · obtain rfl : j = k := by omega
        exact hlp
    · obtain ⟨n, rfl⟩ : ∃ n', n = n' + 1 := by
        rcases Nat.eq_zero_or_pos n with rfl | hp
        · exfalso
          split at hn
          · rename_i hle
            have hlt : p < ops.size := (Array.getElem?_eq_some_iff.1 hop).1
            have : l = [] := List.eq_nil_of_length_eq_zero (by omega)
            subst this
            have h1 := hl' (p - k - 1)
            rw [show k + 1 + (p - k - 1) = p by omega, hop] at h1
            simp at h1
          · omega
        · exact ⟨n - 1, by omega⟩
      have hn' : n + (if k + 1 ≤ p then 1 else 0) = l.length := by
        split at hn
        · rw [if_pos (by omega)]; omega
        · rw [if_neg (by omega)]; omega
      have hkp' : (decide (k = p) && true) = false := by simp [hkp]
      simp only [List.length_cons, mixE, hkp', Bool.false_eq_true, if_false, Bool.and_eq_true] at hB
      obtain ⟨⟨⟨⟨hr, hf⟩, _⟩, hm⟩, hB'⟩ := hB
      have hr' : k ∈ Region.ready md ops listed := by simpa using hr
      have hlow' : ∀ j, j < k + 1 → (listed.setIfInBounds k true).getD j true = true := fun j hj => by
        by_cases hjk : k = j
        · subst hjk
          by_cases hks : k < listed.size <;> simp [hks]
        · rw [getD_set_ne true hjk]; exact hlow j (by omega)
      have hlp' : (listed.setIfInBounds k true).getD p true = true := by rw [getD_set_ne true hkp]; exact hlp
      unfold wpMixE1 at h
      rw [if_neg hkp] at h
      cases hmk : mv k with
      | false =>
        have hst : qOp P ops C k (fun a' => wpMixE1 P ops mv bar p Q l (k + 1) C a' w) a := by
          unfold qOp
          simp only [h0]
          simp only [hmk, Bool.false_eq_true, if_false] at h
          exact h
        obtain ⟨v, hy, hK⟩ := yieldsIn_of_qOp h0 hst
        exact anyF_steady hF h0 hmk (hcalm k o h0 hmk) (Region.noSelect_spec hs) n C listed a w (Region.free_spec h0 hf) hcl hr' hy
          (anyE1_lex hop hmp hbp hF hs hcalm l n (k + 1) C _ _ w hl' hn' hB' (hcl.step hr') hlow' hlp' hw hK)
      | true =>
        have hmvo : mvOp P ops k (fun a' w' => ∃ C' : World → Prop, Stp (bar k) C C' ∧ C' w' ∧ wpMixE1 P ops mv bar p Q l (k + 1) C' a' w') a w := by
          unfold mvOp
          simp only [h0]
          simp only [hmk, if_true] at h
          split
          · rename_i hwd; rw [if_pos hwd] at h; exact h
          · rename_i hwd; rw [if_neg hwd] at h; exact ⟨C, Stp.refl _ _, hw, h⟩
        simp only [hmk, Bool.not_true, Bool.false_or, List.all_eq_true, List.mem_range] at hm
        refine anyF_moving2 (p := p) hF h0 hop hmk hmp hbp (Region.noSelect_spec hs) hcalm (fun j hkj hjp hjs hmj => ?_) n listed a w (Region.free_spec h0 hf) (fun h => by rw [hlp] at h; cases h) hcl (fun j hj _ => hlow j hj) hr' (.inl hlp) hw
          (mvOp_mono (fun a' w' hk => by
            obtain ⟨C', hC', hw', hk⟩ := hk
            exact ⟨C', hC', hw', anyE1_lex hop hmp hbp hF hs hcalm l n (k + 1) C' _ _ w' hl' hn' hB' (hcl.step hr') hlow' hlp' hw' hk⟩) hmvo) (fun h => by rw [hlp] at h; cases h)
        · have := hm j hjs
          simp only [hkj, decide_true, hmj, Bool.and_true, Bool.not_false, Bool.not_true, Bool.false_or, beq_eq_false_iff_ne.2 hjp] at this
          exact this
theorem mixE_skip {mv : Nat → Bool} {p : Nat} : ∀ (fuel k : Nat) (listed : Array Bool), p < k → mixE md ops mv p true fuel k listed = mixE md ops mv p false fuel k listed
  | 0, _, _, _ => rfl
  | fuel + 1, k, listed, h => by
    have h1 : decide (k = p) = false := by simp; omega
    simp only [mixE, h1, Bool.false_and, Bool.false_eq_true, if_false]
    rw [mixE_skip fuel (k + 1) _ (by omega)]
theorem anyE0_lex {mv : Nat → Bool} {bar : Nat → Nat} {p : Nat} {op : Oper} (hop : ops[p]? = some op) (hmp : mv p = true) (hbp : bar p = 0) (hwp : op.guard = none) (hF : FenOk md ops bar) {Q : Act → World → Prop} (hs : Region.noSelect ops = true) (hcalm : ∀ j o, ops[j]? = some o → mv j = false → calm2 o = true)
    : ∀ (l : List Oper) (k : Nat) (C : World → Prop) (listed : Array Bool) (a : Act) (w : World), (∀ j, l[j]? = ops[k + j]?) → k ≤ p →
    mixE md ops mv p false l.length k listed = true → mixE md ops mv p true l.length k (listed.setIfInBounds p true) = true → Closed md ops listed → (∀ j, j < k → listed.getD j true = true) → p ∈ Region.ready md ops listed → C w → wpMixE0 P ops mv bar p Q l k C a w → wpAnyF P md ops mv bar Q l.length C listed a w
  | [], k, C, listed, a, w, hl, hk, hB, _, hcl, hlow, hp, hw, h => by
    have hlt : p < ops.size := (Array.getElem?_eq_some_iff.1 hop).1
    have h1 := hl (p - k)
    rw [show k + (p - k) = p by omega, hop] at h1
    simp at h1
  | o :: l, k, C, listed, a, w, hl, hk, hB, hB1, hcl, hlow, hp, hw, h => by
    have h0 : ops[k]? = some o := by simpa using (hl 0).symm
    have hl' : ∀ j, l[j]? = ops[k + 1 + j]? := fun j => by have := hl (j + 1); simpa [Nat.add_assoc, Nat.add_comm 1 j] using this
    have hpun := (mem_ready.1 hp).1
    have hps : p < listed.size := by
      rcases Nat.lt_or_ge p listed.size with h | h
      · exact h
      · rw [Array.getD_eq_getD_getElem?, Array.getElem?_eq_none h] at hpun
        cases hpun
    have hpset : (listed.setIfInBounds p true).getD p true = true := by simp [hps]
    unfold wpMixE0 at h
    simp only [List.length_cons, mixE, Bool.and_false, Bool.false_eq_true, if_false, Bool.and_eq_true] at hB
    obtain ⟨⟨⟨⟨hr, hf⟩, hfp⟩, hm⟩, hB'⟩ := hB
    have hr' : k ∈ Region.ready md ops listed := by simpa using hr
    have hlow' : ∀ j, j < k + 1 → (listed.setIfInBounds k true).getD j true = true := fun j hj => by
      by_cases hjk : k = j
      · subst hjk
        by_cases hks : k < listed.size <;> simp [hks]
      · rw [getD_set_ne true hjk]; exact hlow j (by omega)
    have hpf : listed.getD p true = true ∨ Region.free md ops listed p = true := by simpa using hfp
    replace hpf := hpf.resolve_left (fun h => by rw [hpun] at h; cases h)
    by_cases hkp : k = p
    · subst hkp
      rw [if_pos rfl] at h
      obtain rfl : op = o := by rw [hop] at h0; exact Option.some.inj h0
      simp only [List.length_cons, mixE, decide_true, Bool.true_and, if_true] at hB1
      have hwd : Region.wanted op (yielded ops a.tmps) = true := by simp [Region.wanted, hwp]
      refine anyF_moving2 (i := k) (p := k) hF h0 hop hmp hmp hbp (Region.noSelect_spec hs) hcalm (fun j hkj hjp hjs hmj => ?_) l.length listed a w (Region.free_spec h0 hf) (fun _ => Region.free_spec h0 hf) hcl (fun j hj _ => hlow j hj) hr' (.inr hp) hw ?_ (fun _ => ?_)
      · rw [hmp] at hm
        simp only [Bool.not_true, Bool.false_or, List.all_eq_true, List.mem_range] at hm
        have := hm j hjs
        simp only [hkj, decide_true, hmj, Bool.and_true, Bool.not_false, Bool.not_true, Bool.false_or, beq_eq_false_iff_ne.2 hjp] at this
        exact this
      all_goals
        unfold mvOp
        simp only [h0]
        rw [if_pos hwd]
        refine wpN_mono (fun u w' hk => ?_) h
        refine ⟨C, Stp.refl _ _, hk.1, anyE1_lex hop hmp hbp hF hs hcalm l l.length (k + 1) C _ _ w' hl' (by rw [if_neg (by omega)]; omega) ?_ (hcl.step hr') hlow' hpset hk.1 hk.2⟩
        exact hB1
    · rw [if_neg hkp] at h
      have hkp' : (decide (k = p) && true) = false := by simp [hkp]
      have hB1s := hB1
      simp only [List.length_cons, mixE, hkp', Bool.false_eq_true, if_false, Bool.and_eq_true] at hB1
      have hB1' := hB1.2
      rw [Array.setIfInBounds_comm _ _ (Ne.symm hkp)] at hB1'
      have hpr' : p ∈ Region.ready md ops (listed.setIfInBounds k true) := ready_mono hp (Ne.symm hkp)
      cases hmk : mv k with
      | false =>
        rw [hmk, if_neg Bool.false_ne_true] at h
        have hst : qOp P ops C k (fun a' => wpMixE0 P ops mv bar p Q l (k + 1) C a' w) a := by
          unfold qOp
          simp only [h0]
          exact h
        obtain ⟨v, hy, hK⟩ := yieldsIn_of_qOp h0 hst
        exact anyF_steady hF h0 hmk (hcalm k o h0 hmk) (Region.noSelect_spec hs) l.length C listed a w (Region.free_spec h0 hf) hcl hr' hy
          (anyE0_lex hop hmp hbp hwp hF hs hcalm l (k + 1) C _ _ w hl' (by omega) hB' hB1' (hcl.step hr') hlow' hpr' hw hK)
      | true =>
        rw [hmk, if_pos rfl] at h
        obtain ⟨he, h⟩ := h
        have hmvo : mvOp P ops k (fun a' w' => ∃ C' : World → Prop, Stp (bar k) C C' ∧ C' w' ∧ wpMixE0 P ops mv bar p Q l (k + 1) C' a' w') a w := by
          unfold mvOp
          simp only [h0]
          split
          · rename_i hwd; rw [if_pos hwd] at h; exact h
          · rename_i hwd; rw [if_neg hwd] at h; exact ⟨C, Stp.refl _ _, hw, h⟩
        simp only [hmk, Bool.not_true, Bool.false_or, List.all_eq_true, List.mem_range] at hm
        refine anyF_moving2 (p := p) hF h0 hop hmk hmp hbp (Region.noSelect_spec hs) hcalm (fun j hkj hjp hjs hmj => ?_) l.length listed a w (Region.free_spec h0 hf) (fun _ => Region.free_spec hop hpf) hcl (fun j hj _ => hlow j hj) hr' (.inr hp) hw
          (mvOp_mono (fun a' w' hk => by
            obtain ⟨C', hC', hw', hk⟩ := hk
            exact ⟨C', hC', hw', anyE0_lex hop hmp hbp hwp hF hs hcalm l (k + 1) C' _ _ w' hl' (by omega) hB' hB1' (hcl.step hr') hlow' hpr' hw' hk⟩) hmvo)
          (fun _ => mvOp_mono (fun a' w' hq => ⟨C, Stp.refl _ _, hq.1, anyE1_lex hop hmp hbp hF hs hcalm (o :: l) l.length k C _ _ w' hl (by rw [if_pos hk]; rfl) hB1s (hcl.step hp) (fun j hj => ?_) hpset hq.1 hq.2⟩) he)
        · have := hm j hjs
          simp only [hkj, decide_true, hmj, Bool.and_true, Bool.not_false, Bool.not_true, Bool.false_or, beq_eq_false_iff_ne.2 hjp] at this
          exact this
        · by_cases hjp : p = j
          · subst hjp; exact hpset
          · rw [getD_set_ne true hjp]; exact hlow j hj
/-! ### In segments: kind 4 marks the free operation's place in the text. -/
def barE (ns : List (Nat × Nat)) (k : Nat) : Nat := if kindOf ns k = 4 then 0 else kindOf ns k
def wpSegsE1 (P : Program) (ops : Array Oper) (Q : Act → World → Prop) : List (Nat × Nat) → (World → Prop) → List Oper → Act → World → Prop
  | [], C, l, a, w => wpQuiet P ops C (fun a' => Q a' w) l a
  | n :: ns, C, l, a, w => wpQuiet P ops C (fun a' => if n.2 = 4 then wpSegsE1 P ops Q ns C (l.drop (n.1 + 1)) a' w else wpHeadF P ops n.2 (wpSegsE1 P ops Q ns) C (l.drop n.1) a' w) (l.take n.1) a
def wpSegsE0 (P : Program) (ops : Array Oper) (p : Nat) (Q : Act → World → Prop) : List (Nat × Nat) → (World → Prop) → List Oper → Act → World → Prop
  | [], _, _, _, _ => False
  | n :: ns, C, l, a, w => wpQuiet P ops C (fun a' => if n.2 = 4 then wpHeadF P ops 0 (wpSegsE1 P ops Q ns) C (l.drop n.1) a' w else
      mvOp P ops p (fun a'' w'' => C w'' ∧ wpSegsE1 P ops Q ((0, n.2) :: ns) C (l.drop n.1) a'' w'') a' w ∧ wpHeadF P ops n.2 (wpSegsE0 P ops p Q ns) C (l.drop n.1) a' w) (l.take n.1) a
theorem mixE1_prefix {mv : Nat → Bool} {bar : Nat → Nat} {p : Nat} {C : World → Prop} {Q : Act → World → Prop} {r : List Oper} {w : World} : ∀ (s : List Oper) (k : Nat) (a : Act), (∀ j, j < s.length → mv (k + j) = false ∧ k + j ≠ p) →
    wpQuiet P ops C (fun a' => wpMixE1 P ops mv bar p Q r (k + s.length) C a' w) s a → wpMixE1 P ops mv bar p Q (s ++ r) k C a w
  | [], k, a, _, h => by simpa [wpQuiet] using h
  | o :: s, k, a, hm, h => by
    obtain ⟨h0, hp0⟩ : mv k = false ∧ k ≠ p := by have := hm 0 (by simp); simpa using this
    have hm' : ∀ j, j < s.length → mv (k + 1 + j) = false ∧ k + 1 + j ≠ p := fun j hj => by have := hm (j + 1) (by simp; omega); simpa [Nat.add_assoc, Nat.add_comm 1 j] using this
    have hk : k + 1 + s.length = k + (o :: s).length := by simp; omega
    show wpMixE1 P ops mv bar p Q (o :: (s ++ r)) k C a w
    unfold wpMixE1
    rw [if_neg hp0]
    unfold wpQuiet at h
    split
    · rename_i hw
      rw [if_pos hw] at h
      simp only [h0, Bool.false_eq_true, if_false]
      exact Oper.quiet_mono (fun a' h' => mixE1_prefix s (k + 1) a' hm' (by rw [hk]; exact h')) h
    · rename_i hw
      rw [if_neg hw] at h
      exact mixE1_prefix s (k + 1) _ hm' (by rw [hk]; exact h)
theorem mixE0_prefix {mv : Nat → Bool} {bar : Nat → Nat} {p : Nat} {C : World → Prop} {Q : Act → World → Prop} {r : List Oper} {w : World} : ∀ (s : List Oper) (k : Nat) (a : Act), (∀ j, j < s.length → mv (k + j) = false ∧ k + j ≠ p) →
    wpQuiet P ops C (fun a' => wpMixE0 P ops mv bar p Q r (k + s.length) C a' w) s a → wpMixE0 P ops mv bar p Q (s ++ r) k C a w
  | [], k, a, _, h => by simpa [wpQuiet] using h
  | o :: s, k, a, hm, h => by
    obtain ⟨h0, hp0⟩ : mv k = false ∧ k ≠ p := by have := hm 0 (by simp); simpa using this
    have hm' : ∀ j, j < s.length → mv (k + 1 + j) = false ∧ k + 1 + j ≠ p := fun j hj => by have := hm (j + 1) (by simp; omega); simpa [Nat.add_assoc, Nat.add_comm 1 j] using this
    have hk : k + 1 + s.length = k + (o :: s).length := by simp; omega
    show wpMixE0 P ops mv bar p Q (o :: (s ++ r)) k C a w
    unfold wpMixE0
    rw [if_neg hp0, h0, if_neg Bool.false_ne_true]
    unfold wpQuiet at h
    split
    · rename_i hw
      rw [if_pos hw] at h
      exact Oper.quiet_mono (fun a' h' => mixE0_prefix s (k + 1) a' hm' (by rw [hk]; exact h')) h
    · rename_i hw
      rw [if_neg hw] at h
      exact mixE0_prefix s (k + 1) _ hm' (by rw [hk]; exact h)
/-- the marked place, and no other. -/
def markE (ns : List (Nat × Nat)) (k p : Nat) : Prop := ∀ j, kindOf ns j = 4 ↔ k + j = p
theorem kind_tail (n : Nat × Nat) (ns : List (Nat × Nat)) (j : Nat) : kindOf (n :: ns) (n.1 + 1 + j) = kindOf ns j := by
  simp only [kindOf]
  rw [if_neg (by omega), if_pos (by omega), show n.1 + 1 + j - (n.1 + 1) = j by omega]
theorem kind_at (n : Nat × Nat) (ns : List (Nat × Nat)) : kindOf (n :: ns) n.1 = n.2 := by simp [kindOf]
theorem mv_tail (n : Nat × Nat) (ns : List (Nat × Nat)) (j : Nat) : mvOf ((n :: ns).map Prod.fst) (n.1 + 1 + j) = mvOf (ns.map Prod.fst) j := by
  simp only [List.map_cons, mvOf]
  have h1 : (n.1 + 1 + j == n.1) = false := by simp; omega
  have h2 : decide (n.1 < n.1 + 1 + j) = true := by simp; omega
  rw [h1, h2, show n.1 + 1 + j - (n.1 + 1) = j by omega]
  simp
theorem mv_at (n : Nat × Nat) (ns : List (Nat × Nat)) : mvOf ((n :: ns).map Prod.fst) n.1 = true := by simp [mvOf]
theorem mv_low (n : Nat × Nat) (ns : List (Nat × Nat)) {j : Nat} (h : j < n.1) : mvOf ((n :: ns).map Prod.fst) j = false := by
  simp only [List.map_cons, mvOf]
  have h1 : (j == n.1) = false := by simp; omega
  have h2 : decide (n.1 < j) = false := by simp; omega
  simp [h1, h2]
theorem kind_low (n : Nat × Nat) (ns : List (Nat × Nat)) {j : Nat} (h : j < n.1) : kindOf (n :: ns) j = 0 := by
  simp only [kindOf]
  rw [if_neg (by omega), if_neg (by omega)]
theorem mixE1_of_segs {mv : Nat → Bool} {bar : Nat → Nat} {p : Nat} {Q : Act → World → Prop} : ∀ (ns : List (Nat × Nat)) (C : World → Prop) (l : List Oper) (k : Nat) (a : Act) (w : World), (∀ j, mv (k + j) = mvOf (ns.map Prod.fst) j) → (∀ j, bar (k + j) = barE ns j) → markE ns k p → wpSegsE1 P ops Q ns C l a w → wpMixE1 P ops mv bar p Q l k C a w
  | [], C, l, k, a, w, hm, _, hk, h => by
    have := mixE1_prefix (P := P) (ops := ops) (C := C) (mv := mv) (bar := bar) (p := p) (Q := Q) (r := []) (w := w) l k a (fun j _ => ⟨by rw [hm]; rfl, fun e => by have := (hk j).2 e; simp [kindOf] at this⟩) (wpQuiet_mono (fun a' h => by unfold wpMixE1; exact h) l a h)
    simpa using this
  | n :: ns, C, l, k, a, w, hm, hb, hk, h => by
    unfold wpSegsE1 at h
    rw [← List.take_append_drop n.1 l]
    refine mixE1_prefix (l.take n.1) k a (fun j hj => ?_) (wpQuiet_mono (fun a' h' => ?_) _ _ h)
    · rw [List.length_take] at hj
      refine ⟨by rw [hm]; exact mv_low n ns (by omega), fun e => ?_⟩
      have := (hk j).2 e
      rw [kind_low n ns (by omega)] at this
      cases this
    · have hm' : ∀ j, mv (k + n.1 + 1 + j) = mvOf (ns.map Prod.fst) j := fun j => by
        rw [show k + n.1 + 1 + j = k + (n.1 + 1 + j) by omega, hm]
        exact mv_tail n ns j
      have hb' : ∀ j, bar (k + n.1 + 1 + j) = barE ns j := fun j => by
        rw [show k + n.1 + 1 + j = k + (n.1 + 1 + j) by omega, hb]
        unfold barE
        rw [kind_tail]
      have hk' : markE ns (k + n.1 + 1) p := fun j => by
        have := hk (n.1 + 1 + j)
        rw [kind_tail, show k + (n.1 + 1 + j) = k + n.1 + 1 + j by omega] at this
        exact this
      generalize hd : l.drop n.1 = d at h'
      have hdd : l.drop (n.1 + 1) = d.tail := by rw [← hd, List.tail_drop]
      cases d with
      | nil =>
        by_cases h4 : n.2 = 4
        · rw [if_pos h4, hdd] at h'
          have hlen : l.length ≤ n.1 := by
            have : (l.drop n.1).length = l.length - n.1 := List.length_drop
            rw [hd] at this
            simp at this
            omega
          have he : (l.take n.1).length = l.length := by rw [List.length_take]; omega
          rw [he]
          unfold wpMixE1
          have := mixE1_of_segs ns C [] (k + n.1 + 1) a' w hm' hb' hk' h'
          unfold wpMixE1 at this
          exact this
        · rw [if_neg h4] at h'
          exact h'.elim
      | cons m r =>
        have hlen : (l.take n.1).length = n.1 := by
          have : (l.drop n.1).length = l.length - n.1 := List.length_drop
          rw [hd] at this
          simp at this ⊢
          omega
        rw [hlen]
        unfold wpMixE1
        by_cases h4 : n.2 = 4
        · rw [if_pos h4, hdd] at h'
          rw [if_pos ((hk n.1).1 (by rw [kind_at]; exact h4))]
          exact mixE1_of_segs ns C r (k + n.1 + 1) a' w hm' hb' hk' h'
        · rw [if_neg h4] at h'
          rw [if_neg (fun e => h4 (by rw [← kind_at n ns]; exact (hk n.1).2 e))]
          have hmn : mv (k + n.1) = true := by rw [hm]; exact mv_at n ns
          have hbn : bar (k + n.1) = n.2 := by rw [hb]; unfold barE; rw [kind_at, if_neg h4]
          simp only [wpHeadF] at h'
          split
          · rename_i hw
            rw [if_pos hw] at h'
            refine wpN_mono (fun u w' hh => ?_) h'
            obtain ⟨C', hC', hw', hh⟩ := hh
            exact ⟨C', by rw [hbn]; exact hC', hw', mixE1_of_segs ns C' r _ _ w' hm' hb' hk' hh⟩
          · rename_i hw
            rw [if_neg hw] at h'
            exact mixE1_of_segs ns C r _ _ w hm' hb' hk' h'
theorem mixE0_of_segs {mv : Nat → Bool} {bar : Nat → Nat} {p : Nat} {Q : Act → World → Prop} : ∀ (ns : List (Nat × Nat)) (C : World → Prop) (l : List Oper) (k : Nat) (a : Act) (w : World), (∀ j, mv (k + j) = mvOf (ns.map Prod.fst) j) → (∀ j, bar (k + j) = barE ns j) → markE ns k p → (∀ j, l[j]? = ops[k + j]?) → (∀ o, ops[p]? = some o → o.guard = none) → wpSegsE0 P ops p Q ns C l a w → wpMixE0 P ops mv bar p Q l k C a w
  | [], C, l, k, a, w, hm, _, hk, _, hg, h => h.elim
  | n :: ns, C, l, k, a, w, hm, hb, hk, hl, hg, h => by
    unfold wpSegsE0 at h
    rw [← List.take_append_drop n.1 l]
    refine mixE0_prefix (l.take n.1) k a (fun j hj => ?_) (wpQuiet_mono (fun a' h' => ?_) _ _ h)
    · rw [List.length_take] at hj
      refine ⟨by rw [hm]; exact mv_low n ns (by omega), fun e => ?_⟩
      have := (hk j).2 e
      rw [kind_low n ns (by omega)] at this
      cases this
    · have hm' : ∀ j, mv (k + n.1 + 1 + j) = mvOf (ns.map Prod.fst) j := fun j => by
        rw [show k + n.1 + 1 + j = k + (n.1 + 1 + j) by omega, hm]
        exact mv_tail n ns j
      have hb' : ∀ j, bar (k + n.1 + 1 + j) = barE ns j := fun j => by
        rw [show k + n.1 + 1 + j = k + (n.1 + 1 + j) by omega, hb]
        unfold barE
        rw [kind_tail]
      have hk' : markE ns (k + n.1 + 1) p := fun j => by
        have := hk (n.1 + 1 + j)
        rw [kind_tail, show k + (n.1 + 1 + j) = k + n.1 + 1 + j by omega] at this
        exact this
      generalize hd : l.drop n.1 = d at h'
      cases d with
      | nil =>
        by_cases h4 : n.2 = 4
        · rw [if_pos h4] at h'
          exact h'.elim
        · rw [if_neg h4] at h'
          exact h'.2.elim
      | cons m r =>
        have hlen : (l.take n.1).length = n.1 := by
          have : (l.drop n.1).length = l.length - n.1 := List.length_drop
          rw [hd] at this
          simp at this ⊢
          omega
        have hlm : ∀ j, r[j]? = ops[k + n.1 + 1 + j]? := fun j => by
          have : (l.drop n.1)[j + 1]? = l[n.1 + (j + 1)]? := List.getElem?_drop
          rw [hd] at this
          rw [show k + n.1 + 1 + j = k + (n.1 + (j + 1)) by omega, ← hl, ← this]
          rfl
        rw [hlen]
        unfold wpMixE0
        by_cases h4 : n.2 = 4
        · rw [if_pos h4] at h'
          have hp := (hk n.1).1 (by rw [kind_at]; exact h4)
          rw [if_pos hp]
          have hgm : m.guard = none := hg m (by
            have : (l.drop n.1)[0]? = l[n.1 + 0]? := List.getElem?_drop
            rw [hd] at this
            rw [← hp, ← Nat.add_zero n.1, ← hl, ← this]
            rfl)
          simp only [wpHeadF] at h'
          rw [if_pos (by simp [Region.wanted, hgm])] at h'
          refine wpN_mono (fun u w' hh => ?_) h'
          obtain ⟨C', hC', hw', hh⟩ := hh
          cases hC'.1 rfl
          exact ⟨hw', mixE1_of_segs ns C r _ _ w' hm' hb' hk' hh⟩
        · rw [if_neg h4] at h'
          have hnp : ¬ k + n.1 = p := fun e => h4 (by rw [← kind_at n ns]; exact (hk n.1).2 e)
          have hmn : mv (k + n.1) = true := by rw [hm]; exact mv_at n ns
          have hbn : bar (k + n.1) = n.2 := by rw [hb]; unfold barE; rw [kind_at, if_neg h4]
          rw [if_neg hnp, if_pos hmn]
          refine ⟨mvOp_mono (fun a2 w2 hh => ⟨hh.1, mixE1_of_segs ((0, n.2) :: ns) C (m :: r) (k + n.1) a2 w2 (fun j => ?_) (fun j => ?_) (fun j => ?_) hh.2⟩) h'.1, ?_⟩
          · cases j with
            | zero => rw [Nat.add_zero, hmn]; exact (mv_at (0, n.2) ns).symm
            | succ j => rw [show k + n.1 + (j + 1) = k + n.1 + 1 + j by omega, hm', ← mv_tail (0, n.2) ns j]; simp [Nat.add_comm]
          · cases j with
            | zero => rw [Nat.add_zero, hbn]; unfold barE; rw [show kindOf ((0, n.2) :: ns) 0 = n.2 from kind_at (0, n.2) ns, if_neg h4]
            | succ j => rw [show k + n.1 + (j + 1) = k + n.1 + 1 + j by omega, hb']; unfold barE; rw [show j + 1 = (0, n.2).1 + 1 + j by simp [Nat.add_comm], kind_tail]
          · cases j with
            | zero => rw [show kindOf ((0, n.2) :: ns) 0 = n.2 from kind_at (0, n.2) ns, Nat.add_zero]; exact ⟨fun e => absurd e h4, fun e => absurd e hnp⟩
            | succ j =>
              rw [show kindOf ((0, n.2) :: ns) (j + 1) = kindOf ns j by rw [show j + 1 = (0, n.2).1 + 1 + j by simp [Nat.add_comm], kind_tail], hk' j]
              omega
          · have h2 := h'.2
            simp only [wpHeadF] at h2
            split
            · rename_i hw
              rw [if_pos hw] at h2
              refine wpN_mono (fun u w' hh => ?_) h2
              obtain ⟨C', hC', hw', hh⟩ := hh
              exact ⟨C', by rw [hbn]; exact hC', hw', mixE0_of_segs ns C' r _ _ w' hm' hb' hk' hlm hg hh⟩
            · rename_i hw
              rw [if_neg hw] at h2
              exact mixE0_of_segs ns C r _ _ w hm' hb' hk' hlm hg h2
/-- the free operation ahead of another one. -/
theorem early_want {C : World → Prop} {K : Act → World → Prop} {p : Nat} {m : Oper} {a : Act} {w : World} (hp : ops[p]? = some m) (hw : Region.wanted m (yielded ops a.tmps) = true)
    (h : ∀ K' : Act → World → Prop, (∀ a' w', a'.defers = a.defers → C w' → K a' w' → K' a' w') → m.wp P a w K' (fun _ _ _ => False)) : mvOp P ops p (fun a' w' => C w' ∧ K a' w') a w := by
  unfold mvOp
  simp only [hp]
  rw [if_pos hw]
  exact wpN_of_wp (h _ fun a' w' hd hc hk => ⟨hd, hc, hk⟩)
/-- the marked place. -/
def freeAt (ns : List (Nat × Nat)) (n p : Nat) : Bool := (List.range n).all fun j => (kindOf ns j == 4) == (j == p)
theorem kind_sum : ∀ (ns : List (Nat × Nat)) (j : Nat), (ns.map fun n => n.1 + 1).sum ≤ j → kindOf ns j = 0
  | [], _, _ => rfl
  | n :: ns, j, h => by
    rw [List.map_cons, List.sum_cons] at h
    obtain ⟨i, rfl⟩ : ∃ i, j = n.1 + 1 + i := ⟨j - (n.1 + 1), by omega⟩
    rw [kind_tail]
    exact kind_sum ns i (by omega)
def checkE (ops : Array Oper) (ns : List (Nat × Nat)) (p : Nat) : Bool :=
  Region.noSelect ops && ((List.range ops.size).all fun j => mvOf (ns.map Prod.fst) j || (ops[j]?).all calm2) && fenB ops (barE ns) && mixE .any ops (mvOf (ns.map Prod.fst)) p false ops.size 0 (Array.replicate ops.size false) &&
  mixE .any ops (mvOf (ns.map Prod.fst)) p true ops.size 0 ((Array.replicate ops.size false).setIfInBounds p true) && (Region.ready .any ops (Array.replicate ops.size false)).contains p &&
  decide ((ns.map fun n => n.1 + 1).sum ≤ ops.size) && freeAt ns ops.size p && (ops[p]?).all (fun o => o.guard.isNone)
/-- the region's walk with one free moving operation, p. -/
theorem wp_region_fre {P : Program} {id : Nat} {Q : Exit → Act → World → Prop} {a : Act} {w : World} {l : List Oper} (S : Nat → Prop) [DecidablePred S] (ns : List (Nat × Nat)) (p : Nat) (hm : P.follows .mixedOrders = true) (hB : checkE l.toArray ns p = true)
    (h : wpSegsE0 P l.toArray p (fun a' w' => Q .normal a' w') ns (fun w' => ∃ x, w' = graft S w x) l a w.drew) : (Code.region id l.toArray true).wp P Q a w := by
  simp only [checkE, Bool.and_eq_true, List.all_eq_true, List.mem_range] at hB
  obtain ⟨⟨⟨⟨⟨⟨⟨⟨hns, hcm⟩, hfn⟩, hm0⟩, hm1⟩, hrd⟩, hsum⟩, hfr⟩, hgd⟩ := hB
  have hrd' : p ∈ Region.ready .any l.toArray (Array.replicate l.toArray.size false) := by simpa using hrd
  have hplt : p < l.toArray.size := ready_lt hrd'
  obtain ⟨op, hop⟩ : ∃ op, l.toArray[p]? = some op := ⟨_, Array.getElem?_eq_getElem hplt⟩
  have hmark : markE ns 0 p := fun j => by
    rw [Nat.zero_add]
    rcases Nat.lt_or_ge j l.toArray.size with hj | hj
    · simp only [freeAt, List.all_eq_true, List.mem_range] at hfr
      have hj4 := hfr j hj
      by_cases h4 : kindOf ns j = 4
      · by_cases hjp : j = p
        · exact ⟨fun _ => hjp, fun _ => h4⟩
        · simp [h4, hjp] at hj4
      · by_cases hjp : j = p
        · simp [hjp] at hj4
          rw [hjp] at h4
          exact absurd hj4 h4
        · exact ⟨fun e => absurd e h4, fun e => absurd e hjp⟩
    · have h0 := kind_sum ns j (by have := of_decide_eq_true hsum; omega)
      rw [h0]
      exact ⟨(fun e => absurd e (by decide)), (fun e => by omega)⟩
  have hcalm : ∀ j o, l.toArray[j]? = some o → mvOf (ns.map Prod.fst) j = false → calm2 o = true := fun j o ho hmj => by
    have := hcm j (Array.getElem?_eq_some_iff.1 ho).1
    simpa [hmj, ho] using this
  have hk4 : kindOf ns p = 4 := (hmark p).2 (by omega)
  have hmp : mvOf (ns.map Prod.fst) p = true := by
    cases hh : mvOf (ns.map Prod.fst) p with
    | true => rfl
    | false =>
      exfalso
      have key : ∀ (ns : List (Nat × Nat)) (j : Nat), mvOf (ns.map Prod.fst) j = false → kindOf ns j = 0 := by
        intro ns
        induction ns with
        | nil => intro j _; rfl
        | cons n ns ih =>
          intro j hj
          rcases Nat.lt_trichotomy j n.1 with h1 | h1 | h1
          · exact kind_low n ns h1
          · subst h1
            rw [mv_at] at hj
            cases hj
          · obtain ⟨i, rfl⟩ : ∃ i, j = n.1 + 1 + i := ⟨j - (n.1 + 1), by omega⟩
            rw [mv_tail] at hj
            rw [kind_tail]
            exact ih i hj
      rw [key ns p hh] at hk4
      cases hk4
  have hgd' : op.guard = none := by
    rw [hop] at hgd
    simpa using hgd
  refine wp_region_any hm (wpAny_of_F (bar := barE ns) hcalm (Q := fun a' w' => Q .normal a' w') (fun _ _ h => h) _ (fun w' => ∃ x, w' = graft S w x) _ _ _ (fr_graft (Fr.drew (Fr.refl S w))) ?_)
  have := anyE0_lex (md := .any) (bar := barE ns) hop hmp (by unfold barE; rw [if_pos hk4]) hgd' (fenB_ok hfn) hns hcalm l 0 (fun w' => ∃ x, w' = graft S w x) (Array.replicate l.toArray.size false) a w.drew (by simp) (by omega) (by simpa using hm0) (by simpa using hm1)
    (fun j o _ hj => by
      exfalso
      rw [List.size_toArray] at hj
      by_cases hjs : j < l.length
      · simp [hjs] at hj
      · simp [hjs] at hj) (fun j hj => by omega) hrd' (fr_graft (Fr.drew (Fr.refl S w)))
    (mixE0_of_segs ns _ l 0 a w.drew (by simp) (by simp) hmark (by simp) (fun o ho => by rw [hop] at ho; cases ho; exact hgd') h)
  simpa using this
end
end Go.Proofs.Ytiglabknaldinaa
