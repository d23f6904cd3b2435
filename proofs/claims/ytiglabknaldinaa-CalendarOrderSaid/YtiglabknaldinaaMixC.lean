/- Regions that draw their order, with fences and barriers. A moving operation is plain (0): the class of worlds stays; a fence (1), if all operations behind it follow it: the class behind it is narrower; a barrier (2), if besides all ahead of it precede it: the class behind it is any. A struct literal is steady too. -/
import Derived.Test.YtiglabknaldinaaMix
namespace Go.Proofs.Ytiglabknaldinaa
open Go.RowKit
/-- behind a fence: a world of the class C that is like w but for the blocks in S -/
noncomputable def fenG (C : World → Prop) (S : Nat → Prop) [DecidablePred S] (w y : World) : World := open Classical in if C (graft S w y) then graft S w y else w
theorem fenG_fr (C : World → Prop) (S : Nat → Prop) [DecidablePred S] (w y : World) : Fr S w (fenG C S w y) := by
  unfold fenG
  split
  · exact graft_fr S w y
  · exact Fr.refl S w
theorem fenG_in {C : World → Prop} {S : Nat → Prop} [DecidablePred S] {w y : World} (h : C w) : C (fenG C S w y) := by
  unfold fenG
  split
  · assumption
  · exact h
theorem fen_graft {C : World → Prop} {S : Nat → Prop} [DecidablePred S] {w w' : World} (hf : Fr S w w') (h : C w') : ∃ y, w' = fenG C S w y := by
  obtain ⟨y, hy⟩ := fr_graft hf
  refine ⟨y, ?_⟩
  unfold fenG
  rw [if_pos (by rw [← hy]; exact h), ← hy]
@[go_sem] theorem fenG_cell {C : World → Prop} {S : Nat → Prop} [DecidablePred S] {w y : World} {b o : Nat} {s : Option Nat} (hb : b < w.heap.size) (hs : ¬ S b) : (fenG C S w y).cell? ⟨b, o, s⟩ = w.cell? ⟨b, o, s⟩ := (fenG_fr C S w y).cell (p := ⟨b, o, s⟩) hb hs
section
variable {P : Program} {ops : Array Oper} {md : Region.Mode}
/-- the class of worlds behind a moving operation of kind k -/
def Stp (k : Nat) (C C' : World → Prop) : Prop := (k = 0 → C' = C) ∧ (k ≤ 1 → ∀ x, C' x → C x)
theorem Stp.refl (k : Nat) (C : World → Prop) : Stp k C C := ⟨fun _ => rfl, fun _ _ h => h⟩
def calm2 (o : Oper) : Bool := calm o || (match o.op with | .build .. => true | _ => false)
theorem calm2_noenter {o : Oper} {ρ : Operand → Value} {w w' : World} {f : FuncId} {args : Array Value} (hc : calm2 o = true) (h : (execOp ρ o).run P w = .ok (.enter f args) w') : False := by
  unfold calm2 at hc
  rw [Bool.or_eq_true] at hc
  rcases hc with hc | hc
  · exact calm_noenter hc h
  · cases hop : o.op <;> simp only [hop, Bool.false_eq_true] at hc <;> simp only [execOp, hop] at h
    exact value_noenter h
theorem quiet_calm2 {C : World → Prop} {o : Oper} {a : Act} {w : World} {v : Value} (hc : calm2 o = true) (h : o.quietAt P a C w v) :
    (execOp a.eval o).run P w = .ok (.value v) w ∨ ((execOp a.eval o).run P w = .ok .skip w ∧ v = undef) := by
  unfold Oper.quietAt at h
  generalize hr : (execOp a.eval o).run P w = r at h
  cases r with
  | ok n w' =>
    cases n <;> simp only [Oper.quietUpon] at h
    case value u => obtain ⟨rfl, rfl⟩ := h; exact .inl rfl
    case skip => obtain ⟨rfl, rfl⟩ := h; exact .inr ⟨rfl, rfl⟩
    case enter f args => exact (calm2_noenter hc hr).elim
  | halt x w' => simp only [Oper.quietUpon] at h
theorem quiet_det2 {C : World → Prop} {o : Oper} {a : Act} {w : World} {v u : Value} (hc : calm2 o = true) (h : o.quietAt P a C w v) (k : o.quietAt P a C w u) : v = u := by
  rcases quiet_calm2 hc h with h1 | ⟨h1, h2⟩ <;> rcases quiet_calm2 hc k with k1 | ⟨k1, k2⟩ <;> rw [h1] at k1 <;> simp_all
theorem yields_det2 {C : World → Prop} {o : Oper} {a : Act} {w : World} {v u : Value} (hw : C w) (hc : calm2 o = true) (h : YieldsIn P ops C o v a) (k : YieldsIn P ops C o u a) : v = u := by
  rcases h with ⟨h1, h2⟩ | ⟨h1, rfl⟩ <;> rcases k with ⟨k1, k2⟩ | ⟨k1, rfl⟩
  · exact quiet_det2 hc (h2 w hw) (k2 w hw)
  · rw [h1] at k1; cases k1
  · rw [h1] at k1; cases k1
  · rfl
theorem yields_down {C C' : World → Prop} {o : Oper} {a : Act} {v : Value} (hc : calm2 o = true) (hs : ∀ x, C' x → C x) (h : YieldsIn P ops C o v a) : YieldsIn P ops C' o v a := by
  rcases h with ⟨h1, h2⟩ | h
  · refine .inl ⟨h1, fun w hw => ?_⟩
    have := quiet_calm2 hc (h2 w (hs w hw))
    unfold Oper.quietAt
    rcases this with h3 | ⟨h3, rfl⟩ <;> rw [h3]
    · exact ⟨rfl, rfl⟩
    · exact ⟨rfl, rfl⟩
  · exact .inr h
def wpAnyF (P : Program) (md : Region.Mode) (ops : Array Oper) (mv : Nat → Bool) (bar : Nat → Nat) (Q : Act → World → Prop) : Nat → (World → Prop) → Array Bool → Act → World → Prop
  | 0, _, listed, a, w => Region.ready md ops listed = [] ∧ Q a w
  | fuel + 1, C, listed, a, w =>
    (Region.ready md ops listed = [] → Q a w) ∧
    ∀ i ∈ Region.ready md ops listed,
      if mv i then mvOp P ops i (fun a' w' => ∃ C' : World → Prop, Stp (bar i) C C' ∧ C' w' ∧ wpAnyF P md ops mv bar Q fuel C' (listed.setIfInBounds i true) a' w') a w
      else qOp P ops C i (fun a' => wpAnyF P md ops mv bar Q fuel C (listed.setIfInBounds i true) a' w) a
/-- all behind a fence follow it; all ahead of a barrier precede it. -/
def FenOk (md : Region.Mode) (ops : Array Oper) (bar : Nat → Nat) : Prop := ∀ i j, 1 ≤ bar j → i < ops.size → j < ops.size →
  (j < i → (reachL md j ops.toList 0 #[]).getD i false = true) ∧ (i < j → 2 ≤ bar j → (reachL md i ops.toList 0 #[]).getD j false = true)
theorem fen_pair {listed : Array Bool} {i j : Nat} (hcl : Closed md ops listed) (hi : i ∈ Region.ready md ops listed) (hj : j ∈ Region.ready md ops listed) (hij : i ≠ j) : (reachL md i ops.toList 0 #[]).getD j false = false := by
  cases hr : (reachL md i ops.toList 0 #[]).getD j false with
  | false => rfl
  | true =>
    obtain ⟨hiun, oi, hoi, halli⟩ := mem_ready.1 hi
    obtain ⟨hjun, oj, hoj, hall⟩ := mem_ready.1 hj
    have := reach_listed (reach_ok (md := md) (ops := ops) i) hcl (j + 1) j (by omega) hr (Ne.symm hij) (fun o ho e he hb => by rw [hoj] at ho; cases ho; exact hall e he hb)
    rw [getD_true this] at hiun
    cases hiun
theorem ready_lt {listed : Array Bool} {i : Nat} (hi : i ∈ Region.ready md ops listed) : i < ops.size := by
  obtain ⟨_, oi, hoi, _⟩ := mem_ready.1 hi
  exact (Array.getElem?_eq_some_iff.1 hoi).1
theorem fen_bar {bar : Nat → Nat} {listed : Array Bool} {i j : Nat} (hF : FenOk md ops bar) (hcl : Closed md ops listed) (hi : i ∈ Region.ready md ops listed) (hj : j ∈ Region.ready md ops listed) (hij : i ≠ j) : bar j ≤ 1 := by
  rcases Nat.lt_or_ge 1 (bar j) with h | h
  · obtain ⟨h1, h2⟩ := hF i j (by omega) (ready_lt hi) (ready_lt hj)
    rcases Nat.lt_or_ge i j with hlt | hge
    · have := h2 hlt h
      rw [fen_pair hcl hi hj hij] at this
      cases this
    · have := h1 (by omega)
      rw [fen_pair hcl hj hi (Ne.symm hij)] at this
      cases this
  · exact h
theorem fen_plain {bar : Nat → Nat} {listed : Array Bool} {i j : Nat} (hF : FenOk md ops bar) (hcl : Closed md ops listed) (hi : i ∈ Region.ready md ops listed) (hj : j ∈ Region.ready md ops listed) (hij : i < j) : bar i = 0 := by
  rcases Nat.lt_or_ge 0 (bar i) with h | h
  · have := (hF j i h (ready_lt hj) (ready_lt hi)).1 hij
    rw [fen_pair hcl hi hj (by omega)] at this
    cases this
  · omega
theorem anyF_steady {mv : Nat → Bool} {bar : Nat → Nat} (hF : FenOk md ops bar) {Q : Act → World → Prop} {i : Nat} {oi : Oper} {v : Value} (hi : ops[i]? = some oi) (hmi : mv i = false) (hci : calm2 oi = true) (hsel : ∀ (j : Nat) (o : Oper) cs b, ops[j]? = some o → o.op ≠ .select cs b) :
    ∀ (fuel : Nat) (C : World → Prop) (listed : Array Bool) (a : Act) (w : World),
      (∀ j oj, ops[j]? = some oj → j ≠ i → listed.getD j true = false → (∀ e ∈ oj.after, Region.binds md e = true → e.on ≠ i) → oi.apart ops oj = true) →
      Closed md ops listed → i ∈ Region.ready md ops listed → YieldsIn P ops C oi v a →
      wpAnyF P md ops mv bar Q fuel C (listed.setIfInBounds i true) (a.put oi.dst v) w → wpAnyF P md ops mv bar Q (fuel + 1) C listed a w := by
  intro fuel
  induction fuel with
  | zero =>
    intro C listed a w _ _ hr hy H
    refine ⟨fun h => (by rw [h] at hr; cases hr), fun j hj => ?_⟩
    by_cases hji : j = i
    · subst hji; rw [hmi, if_neg Bool.false_ne_true]; exact hy.qOp hi H
    · have := ready_mono hj hji
      rw [H.1] at this
      cases this
  | succ fuel ih =>
    intro C listed a w hfree hcl hr hy H
    refine ⟨fun h => (by rw [h] at hr; cases hr), fun j hj => ?_⟩
    by_cases hji : j = i
    · subst hji; rw [hmi, if_neg Bool.false_ne_true]; exact hy.qOp hi H
    · have h1 := H.2 j (ready_mono hj hji)
      obtain ⟨hjun, oj, hoj, hall⟩ := mem_ready.1 hj
      have hap := hfree j oj hoj hji hjun (notOn hr hall)
      obtain ⟨p1, p2, p3⟩ := Oper.apart_spec hap
      have hfree' := free_step (md := md) (ops := ops) (oi := oi) hjun hfree
      have keep : ∀ u, YieldsIn P ops C oi v (a.put oj.dst u) := fun u =>
        hy.of_same (execOp_put oi (fun cs b => hsel i oi cs b hi) a oj.dst u p3) (wanted_put oi a oj.dst u p3)
      cases hmj : mv j
      · rw [hmj, if_neg Bool.false_ne_true] at h1
        rw [if_neg Bool.false_ne_true]
        have h2 := qOp_put hoj hap (fun cs b => hsel i oi cs b hi) (fun cs b => hsel j oj cs b hoj) hy h1
        refine qOp_mono (fun a' h3 => ih C (listed.setIfInBounds j true) a' w hfree' (hcl.step hj) (ready_mono hr (Ne.symm hji)) h3.1 ?_) h2
        rw [Array.setIfInBounds_comm _ _ hji]
        exact h3.2
      · rw [hmj, if_pos rfl] at h1
        rw [if_pos rfl]
        have hbj := fen_bar hF hcl hr hj (Ne.symm hji)
        refine mvOp_of_eq hoj (execOp_put oj (fun cs b => hsel j oj cs b hoj) a oi.dst v p1).symm (wanted_put oj a oi.dst v p1).symm (fun u w' hk => ?_) h1
        obtain ⟨C', hC', hw', hk⟩ := hk
        refine ⟨C', hC', hw', ih C' (listed.setIfInBounds j true) (a.put oj.dst u) w' hfree' (hcl.step hj) (ready_mono hr (Ne.symm hji)) (yields_down hci (hC'.2 hbj) (keep u)) ?_⟩
        rw [Array.setIfInBounds_comm _ _ hji, ← Act.put_comm a v u p2]
        exact hk
theorem anyF_moving {mv : Nat → Bool} {bar : Nat → Nat} {C : World → Prop} (hF : FenOk md ops bar) {Q : Act → World → Prop} {i : Nat} {oi : Oper} (hi : ops[i]? = some oi) (hmi : mv i = true) (hsel : ∀ (j : Nat) (o : Oper) cs b, ops[j]? = some o → o.op ≠ .select cs b)
    (hcalm : ∀ j o, ops[j]? = some o → mv j = false → calm2 o = true) (hreach : ∀ j, i < j → j < ops.size → mv j = true → (reachL md i ops.toList 0 #[]).getD j false = true) :
    ∀ (fuel : Nat) (listed : Array Bool) (a : Act) (w : World),
      (∀ j oj, ops[j]? = some oj → j ≠ i → listed.getD j true = false → (∀ e ∈ oj.after, Region.binds md e = true → e.on ≠ i) → oi.apart ops oj = true) →
      Closed md ops listed → (∀ j, j < i → listed.getD j true = true) → i ∈ Region.ready md ops listed → C w →
      mvOp P ops i (fun a' w' => ∃ C' : World → Prop, Stp (bar i) C C' ∧ C' w' ∧ wpAnyF P md ops mv bar Q fuel C' (listed.setIfInBounds i true) a' w') a w → wpAnyF P md ops mv bar Q (fuel + 1) C listed a w := by
  intro fuel
  induction fuel with
  | zero =>
    intro listed a w _ _ _ hr _ H
    refine ⟨fun h => (by rw [h] at hr; cases hr), fun j hj => ?_⟩
    by_cases hji : j = i
    · subst hji; rw [hmi, if_pos rfl]; exact H
    · obtain ⟨u, w', C', _, _, hk⟩ := mvOp_some hi H
      have := ready_mono hj hji
      rw [hk.1] at this
      cases this
  | succ fuel ih =>
    intro listed a w hfree hcl hlow hr hw H
    refine ⟨fun h => (by rw [h] at hr; cases hr), fun j hj => ?_⟩
    by_cases hji : j = i
    · subst hji; rw [hmi, if_pos rfl]; exact H
    · obtain ⟨hjun, oj, hoj, hall⟩ := mem_ready.1 hj
      have hjsz : j < ops.size := (Array.getElem?_eq_some_iff.1 hoj).1
      have hij : i < j := by
        rcases Nat.lt_or_ge j i with h | h
        · rw [hlow j h] at hjun; cases hjun
        · omega
      have hmj : mv j = false := by
        cases hmj : mv j with
        | false => rfl
        | true =>
          have := reach_listed (reach_ok (md := md) (ops := ops) i) hcl (j + 1) j (by omega) (hreach j hij hjsz hmj) (by omega) (fun o ho e he hb => by rw [hoj] at ho; cases ho; exact hall e he hb)
          have h0 := (mem_ready.1 hr).1
          rw [getD_true this] at h0
          cases h0
      have hbi := fen_plain hF hcl hr hj hij
      have hap := hfree j oj hoj hji hjun (notOn hr hall)
      obtain ⟨p1, p2, p3⟩ := Oper.apart_spec hap
      have hsi : ∀ cs b, oi.op ≠ .select cs b := fun cs b => hsel i oi cs b hi
      have hsj : ∀ cs b, oj.op ≠ .select cs b := fun cs b => hsel j oj cs b hoj
      have hr' := ready_mono hj hji
      have move : ∀ u v, YieldsIn P ops C oj v (a.put oi.dst u) → YieldsIn P ops C oj v a := fun u v h =>
        h.of_same (execOp_put oj hsj a oi.dst u p1).symm (wanted_put oj a oi.dst u p1).symm
      obtain ⟨u0, w0, C0, hC0, _, hk0⟩ := mvOp_some hi H
      cases hC0.1 hbi
      have hq := hk0.2 j hr'
      rw [hmj, if_neg Bool.false_ne_true] at hq
      obtain ⟨v, hy, _⟩ := yieldsIn_of_qOp hoj hq
      have hya := move _ _ hy
      rw [hmj, if_neg Bool.false_ne_true]
      refine hya.qOp hoj ?_
      refine ih (listed.setIfInBounds j true) (a.put oj.dst v) w (free_step (md := md) (ops := ops) (oi := oi) hjun hfree) (hcl.step hj) (fun k hk => ?_) (ready_mono hr (Ne.symm hji)) hw ?_
      · by_cases hkj : j = k
        · omega
        · rw [getD_set_ne true hkj]; exact hlow k hk
      · refine mvOp_of_eq hi (execOp_put oi hsi a oj.dst v p3) (wanted_put oi a oj.dst v p3) (fun u w' hk => ?_) H
        obtain ⟨C', hC', hw', hk⟩ := hk
        cases hC'.1 hbi
        refine ⟨C, Stp.refl _ _, hw', ?_⟩
        have hq' := hk.2 j hr'
        rw [hmj, if_neg Bool.false_ne_true] at hq'
        obtain ⟨v', hy', hk'⟩ := yieldsIn_of_qOp hoj hq'
        have := yields_det2 hw (hcalm j oj hoj hmj) hya (move _ _ hy')
        subst this
        rw [Array.setIfInBounds_comm _ _ hji, Act.put_comm a v u (fun d hd h => p2 d h hd)]
        exact hk'

def wpMixF (P : Program) (ops : Array Oper) (mv : Nat → Bool) (bar : Nat → Nat) (Q : Act → World → Prop) : List Oper → Nat → (World → Prop) → Act → World → Prop
  | [], _, _, a, w => Q a w
  | o :: r, k, C, a, w => if Region.wanted o (yielded ops a.tmps) then (if mv k then wpN P o a w (fun a' w' => ∃ C' : World → Prop, Stp (bar k) C C' ∧ C' w' ∧ wpMixF P ops mv bar Q r (k + 1) C' a' w') else o.quiet P a C (fun a' => wpMixF P ops mv bar Q r (k + 1) C a' w)) else wpMixF P ops mv bar Q r (k + 1) C (a.put o.dst undef) w
theorem anyF_lex {mv : Nat → Bool} {bar : Nat → Nat} (hF : FenOk md ops bar) {Q : Act → World → Prop} (hs : Region.noSelect ops = true) (hcalm : ∀ j o, ops[j]? = some o → mv j = false → calm2 o = true) : ∀ (l : List Oper) (k : Nat) (C : World → Prop) (listed : Array Bool) (a : Act) (w : World), (∀ j, l[j]? = ops[k + j]?) →
    mixFrom md ops mv l.length k listed = true → Closed md ops listed → (∀ j, j < k → listed.getD j true = true) → C w → wpMixF P ops mv bar Q l k C a w → wpAnyF P md ops mv bar Q l.length C listed a w
  | [], _, _, _, _, _, _, hB, _, _, _, h => ⟨by simpa [mixFrom] using hB, h⟩
  | o :: l, k, C, listed, a, w, hl, hB, hcl, hlow, hw, h => by
    have h0 : ops[k]? = some o := by simpa using (hl 0).symm
    simp only [List.length_cons, mixFrom, Bool.and_eq_true] at hB
    obtain ⟨⟨⟨hr, hf⟩, hm⟩, hB'⟩ := hB
    have hr' : k ∈ Region.ready md ops listed := by simpa using hr
    have hl' : ∀ j, l[j]? = ops[k + 1 + j]? := fun j => by have := hl (j + 1); simpa [Nat.add_assoc, Nat.add_comm 1 j] using this
    have hlow' : ∀ j, j < k + 1 → (listed.setIfInBounds k true).getD j true = true := fun j hj => by
      by_cases hjk : k = j
      · subst hjk
        by_cases hks : k < listed.size <;> simp [hks]
      · rw [getD_set_ne true hjk]; exact hlow j (by omega)
    unfold wpMixF at h
    cases hmk : mv k with
    | false =>
      have hst : qOp P ops C k (fun a' => wpMixF P ops mv bar Q l (k + 1) C a' w) a := by
        unfold qOp
        simp only [h0]
        simp only [hmk, Bool.false_eq_true, if_false] at h
        exact h
      obtain ⟨v, hy, hK⟩ := yieldsIn_of_qOp h0 hst
      exact anyF_steady hF h0 hmk (hcalm k o h0 hmk) (Region.noSelect_spec hs) l.length C listed a w (Region.free_spec h0 hf) hcl hr' hy
        (anyF_lex hF hs hcalm l (k + 1) C _ _ w hl' hB' (hcl.step hr') hlow' hw hK)
    | true =>
      have hmvo : mvOp P ops k (fun a' w' => ∃ C' : World → Prop, Stp (bar k) C C' ∧ C' w' ∧ wpMixF P ops mv bar Q l (k + 1) C' a' w') a w := by
        unfold mvOp
        simp only [h0]
        simp only [hmk, if_true] at h
        split
        · rename_i hwd; rw [if_pos hwd] at h; exact h
        · rename_i hwd; rw [if_neg hwd] at h; exact ⟨C, Stp.refl _ _, hw, h⟩
      simp only [hmk, Bool.not_true, Bool.false_or, List.all_eq_true, List.mem_range] at hm
      refine anyF_moving hF h0 hmk (Region.noSelect_spec hs) hcalm (fun j hkj hjs hmj => ?_) l.length listed a w (Region.free_spec h0 hf) hcl hlow hr' hw
        (mvOp_mono (fun a' w' hk => by
          obtain ⟨C', hC', hw', hk⟩ := hk
          exact ⟨C', hC', hw', anyF_lex hF hs hcalm l (k + 1) C' _ _ w' hl' hB' (hcl.step hr') hlow' hw' hk⟩) hmvo)
      have := hm j hjs
      simp only [hkj, decide_true, hmj, Bool.and_true, Bool.not_true, Bool.false_or] at this
      exact this
theorem wpAny_of_F {mv : Nat → Bool} {bar : Nat → Nat} {Q : Act → World → Prop} {Q' : Exit → Act → World → Prop} (hcalm : ∀ j o, ops[j]? = some o → mv j = false → calm2 o = true) (hQ : ∀ a w, Q a w → Q' .normal a w) : ∀ (fuel : Nat) (C : World → Prop) (listed : Array Bool) (a : Act) (w : World), C w →
    wpAnyF P md ops mv bar Q fuel C listed a w → wpAny P md ops Q' fuel listed a w
  | 0, _, _, _, _, _, h => ⟨h.1, hQ _ _ h.2⟩
  | fuel + 1, C, _, _, _, hw, h => ⟨fun h0 => hQ _ _ (h.1 h0), fun i hi => by
      have h1 := h.2 i hi
      split at h1
      · exact wpOp_of_mvOp (mvOp_mono (fun a' w' hk => by
          obtain ⟨C', _, hw', hk⟩ := hk
          exact wpAny_of_F hcalm hQ fuel C' _ a' w' hw' hk) h1)
      · rename_i hmi
        unfold qOp at h1
        unfold wpOp
        split
        · rename_i ho; simp only [ho] at h1; exact wpAny_of_F hcalm hQ fuel C _ _ _ hw h1
        · rename_i o ho
          simp only [ho] at h1
          split
          · rename_i hwd
            rw [if_pos hwd] at h1
            obtain ⟨v, hv, hk⟩ := h1
            refine .inl ?_
            unfold Oper.wp
            rcases quiet_calm2 (hcalm _ o ho (by simpa using hmi)) (hv _ hw) with hr | ⟨hr, rfl⟩ <;> rw [hr] <;> exact wpAny_of_F hcalm hQ fuel C _ _ _ hw hk
          · rename_i hwd; rw [if_neg hwd] at h1; exact wpAny_of_F hcalm hQ fuel C _ _ _ hw h1⟩
def mixB2 (ops : Array Oper) (mv : Nat → Bool) : Bool :=
  Region.noSelect ops && ((List.range ops.size).all fun j => mv j || (ops[j]?).all calm2) && mixFrom .any ops mv ops.size 0 (Array.replicate ops.size false)
theorem wp_region_mixF0 {id : Nat} {Q : Exit → Act → World → Prop} {C : World → Prop} {a : Act} {w : World} {mv : Nat → Bool} {bar : Nat → Nat} (hF : FenOk .any ops bar) (hm : P.follows .mixedOrders = true) (hB : mixB2 ops mv = true) (hC : C w.drew)
    (h : wpMixF P ops mv bar (fun a' w' => Q .normal a' w') ops.toList 0 C a w.drew) : (Code.region id ops true).wp P Q a w := by
  simp only [mixB2, Bool.and_eq_true, List.all_eq_true, List.mem_range] at hB
  obtain ⟨⟨h1, h2⟩, h3⟩ := hB
  have hcalm : ∀ j o, ops[j]? = some o → mv j = false → calm2 o = true := fun j o ho hmj => by
    have := h2 j (Array.getElem?_eq_some_iff.1 ho).1
    simpa [hmj, ho] using this
  refine wp_region_any hm (wpAny_of_F (bar := bar) hcalm (Q := fun a' w' => Q .normal a' w') (fun _ _ h => h) _ C _ _ _ hC ?_)
  have := anyF_lex (md := .any) hF h1 hcalm ops.toList 0 C (Array.replicate ops.size false) a w.drew (by simp) (by simpa using h3)
    (fun j o _ hj => by
      exfalso
      by_cases hjs : j < ops.size
      · simp [hjs] at hj
      · simp [hjs] at hj) (fun j hj => by omega) hC h
  simpa using this

/-! ### In segments: n steady operations, a moving one (true: a barrier), and so on -/
def wpHeadF (P : Program) (ops : Array Oper) (bar : Nat) (K : (World → Prop) → List Oper → Act → World → Prop) : (World → Prop) → List Oper → Act → World → Prop
  | _, [], _, _ => False
  | C, m :: r, a, w => if Region.wanted m (yielded ops a.tmps) then wpN P m a w (fun a' w' => ∃ C' : World → Prop, Stp bar C C' ∧ C' w' ∧ K C' r a' w') else K C r (a.put m.dst undef) w
def wpSegsF (P : Program) (ops : Array Oper) (Q : Act → World → Prop) : List (Nat × Nat) → (World → Prop) → List Oper → Act → World → Prop
  | [], C, l, a, w => wpQuiet P ops C (fun a' => Q a' w) l a
  | n :: ns, C, l, a, w => wpQuiet P ops C (fun a' => wpHeadF P ops n.2 (wpSegsF P ops Q ns) C (l.drop n.1) a' w) (l.take n.1) a
def kindOf : List (Nat × Nat) → Nat → Nat
  | [], _ => 0
  | n :: ns, k => if k = n.1 then n.2 else if n.1 < k then kindOf ns (k - (n.1 + 1)) else 0
theorem mixF_prefix {mv : Nat → Bool} {bar : Nat → Nat} {C : World → Prop} {Q : Act → World → Prop} {r : List Oper} {w : World} : ∀ (s : List Oper) (k : Nat) (a : Act), (∀ j, j < s.length → mv (k + j) = false) →
    wpQuiet P ops C (fun a' => wpMixF P ops mv bar Q r (k + s.length) C a' w) s a → wpMixF P ops mv bar Q (s ++ r) k C a w
  | [], k, a, _, h => by simpa [wpQuiet] using h
  | o :: s, k, a, hm, h => by
    have h0 : mv k = false := by have := hm 0 (by simp); simpa using this
    have hm' : ∀ j, j < s.length → mv (k + 1 + j) = false := fun j hj => by have := hm (j + 1) (by simp; omega); simpa [Nat.add_assoc, Nat.add_comm 1 j] using this
    have hk : k + 1 + s.length = k + (o :: s).length := by simp; omega
    show wpMixF P ops mv bar Q (o :: (s ++ r)) k C a w
    unfold wpMixF
    unfold wpQuiet at h
    split
    · rename_i hw
      rw [if_pos hw] at h
      simp only [h0, Bool.false_eq_true, if_false]
      exact Oper.quiet_mono (fun a' h' => mixF_prefix s (k + 1) a' hm' (by rw [hk]; exact h')) h
    · rename_i hw
      rw [if_neg hw] at h
      exact mixF_prefix s (k + 1) _ hm' (by rw [hk]; exact h)
theorem mixF_of_segs {mv : Nat → Bool} {bar : Nat → Nat} {Q : Act → World → Prop} : ∀ (ns : List (Nat × Nat)) (C : World → Prop) (l : List Oper) (k : Nat) (a : Act) (w : World), (∀ j, mv (k + j) = mvOf (ns.map Prod.fst) j) → (∀ j, bar (k + j) = kindOf ns j) → wpSegsF P ops Q ns C l a w → wpMixF P ops mv bar Q l k C a w
  | [], C, l, k, a, w, hm, _, h => by
    have := mixF_prefix (P := P) (ops := ops) (C := C) (mv := mv) (bar := bar) (Q := Q) (r := []) (w := w) l k a (fun j _ => by rw [hm]; rfl) (wpQuiet_mono (fun a' h => by unfold wpMixF; exact h) l a h)
    simpa using this
  | n :: ns, C, l, k, a, w, hm, hb, h => by
    unfold wpSegsF at h
    rw [← List.take_append_drop n.1 l]
    refine mixF_prefix (l.take n.1) k a (fun j hj => ?_) (wpQuiet_mono (fun a' h' => ?_) _ _ h)
    · rw [List.length_take] at hj
      rw [hm]
      simp only [List.map_cons, mvOf]
      have h1 : (j == n.1) = false := by simp; omega
      have h2 : decide (n.1 < j) = false := by simp; omega
      simp [h1, h2]
    · generalize hd : l.drop n.1 = d at h'
      cases d with
      | nil => exact h'.elim
      | cons m r =>
        have hlen : (l.take n.1).length = n.1 := by
          have : (l.drop n.1).length = l.length - n.1 := List.length_drop
          rw [hd] at this
          simp at this ⊢
          omega
        have hmn : mv (k + (l.take n.1).length) = true := by rw [hlen, hm]; simp [mvOf]
        have hbn : bar (k + (l.take n.1).length) = n.2 := by rw [hlen, hb]; simp [kindOf]
        have hm' : ∀ j, mv (k + (l.take n.1).length + 1 + j) = mvOf (ns.map Prod.fst) j := fun j => by
          rw [hlen, show k + n.1 + 1 + j = k + (n.1 + 1 + j) by omega, hm]
          simp only [List.map_cons, mvOf]
          have h1 : (n.1 + 1 + j == n.1) = false := by simp; omega
          have h2 : decide (n.1 < n.1 + 1 + j) = true := by simp; omega
          rw [h1, h2, show n.1 + 1 + j - (n.1 + 1) = j by omega]
          simp
        have hb' : ∀ j, bar (k + (l.take n.1).length + 1 + j) = kindOf ns j := fun j => by
          rw [hlen, show k + n.1 + 1 + j = k + (n.1 + 1 + j) by omega, hb]
          simp only [kindOf]
          rw [if_neg (by omega), if_pos (by omega), show n.1 + 1 + j - (n.1 + 1) = j by omega]
        unfold wpMixF
        simp only [wpHeadF] at h'
        split
        · rename_i hw
          rw [if_pos hw] at h'
          refine wpN_mono (fun u w' hk => ?_) h'
          obtain ⟨C', hC', hw', hk⟩ := hk
          exact ⟨C', by rw [hbn]; exact hC', hw', mixF_of_segs ns C' r _ _ w' hm' hb' hk⟩
        · rename_i hw
          rw [if_neg hw] at h'
          exact mixF_of_segs ns C r _ _ w hm' hb' h'
/-- each fence: all behind it follow it; each barrier: besides all ahead of it precede it. -/
def fenB (ops : Array Oper) (bar : Nat → Nat) : Bool := (List.range ops.size).all fun j => (bar j == 0) || ((List.range ops.size).all fun i => !(decide (j < i)) || (reachL .any j ops.toList 0 #[]).getD i false) && ((bar j == 1) || (List.range ops.size).all fun i => !(decide (i < j)) || (reachL .any i ops.toList 0 #[]).getD j false)
theorem fenB_ok {bar : Nat → Nat} (h : fenB ops bar = true) : FenOk .any ops bar := fun i j hj hi hjs => by
  simp only [fenB, List.all_eq_true, List.mem_range, Bool.or_eq_true, Bool.and_eq_true, Bool.not_eq_true', decide_eq_false_iff_not, beq_iff_eq] at h
  rcases h j hjs with h1 | ⟨h1, h2⟩
  · omega
  · refine ⟨fun hlt => ?_, fun hlt hb => ?_⟩
    · rcases h1 i hi with h | h
      · exact absurd hlt h
      · exact h
    · rcases h2 with h2 | h2
      · omega
      · rcases h2 i hi with h | h
        · exact absurd hlt h
        · exact h
/-- the barrier, in the walk's own form: the class behind it is chosen. -/
theorem wpHeadF_bar {C : World → Prop} {K : (World → Prop) → List Oper → Act → World → Prop} {m : Oper} {r : List Oper} {a : Act} {w : World} (hw : Region.wanted m (yielded ops a.tmps) = true)
    (h : ∀ K' : Act → World → Prop, (∀ (a' : Act) (w' : World) (S : Nat → Prop) [DecidablePred S], a'.defers = a.defers → K (fun x => ∃ y, x = graft S w' y) r a' w' → K' a' w') → m.wp P a w K' (fun _ _ _ => False)) : wpHeadF P ops 2 K C (m :: r) a w := by
  simp only [wpHeadF]
  rw [if_pos hw]
  exact wpN_of_wp (h _ fun a' w' S _ hd hk => ⟨hd, (fun x => ∃ y, x = graft S w' y), ⟨(fun h => nomatch h), (fun h => absurd h (by decide))⟩, fr_graft (Fr.refl S w'), hk⟩)
/-- the fence, in the walk's own form: the world must be of the class; the class behind it is narrower. -/
theorem wpHeadF_fen {C : World → Prop} {K : (World → Prop) → List Oper → Act → World → Prop} {m : Oper} {r : List Oper} {a : Act} {w : World} (hw : Region.wanted m (yielded ops a.tmps) = true)
    (h : ∀ K' : Act → World → Prop, (∀ (a' : Act) (w' : World) (S : Nat → Prop) [DecidablePred S], a'.defers = a.defers → C w' → K (fun x => ∃ y, x = fenG C S w' y) r a' w' → K' a' w') → m.wp P a w K' (fun _ _ _ => False)) : wpHeadF P ops 1 K C (m :: r) a w := by
  simp only [wpHeadF]
  rw [if_pos hw]
  refine wpN_of_wp (h _ fun a' w' S _ hd hc hk => ⟨hd, (fun x => ∃ y, x = fenG C S w' y), ⟨(fun h => nomatch h), (fun _ x hx => ?_)⟩, fen_graft (Fr.refl S w') hc, hk⟩)
  obtain ⟨y, rfl⟩ := hx
  exact fenG_in hc
/-- a plain moving operation. -/
theorem wpHeadF_want {C : World → Prop} {K : (World → Prop) → List Oper → Act → World → Prop} {m : Oper} {r : List Oper} {a : Act} {w : World} (hw : Region.wanted m (yielded ops a.tmps) = true)
    (h : ∀ K' : Act → World → Prop, (∀ a' w', a'.defers = a.defers → C w' → K C r a' w' → K' a' w') → m.wp P a w K' (fun _ _ _ => False)) : wpHeadF P ops 0 K C (m :: r) a w := by
  simp only [wpHeadF]
  rw [if_pos hw]
  exact wpN_of_wp (h _ fun a' w' hd hc hk => ⟨hd, C, Stp.refl _ _, hc, hk⟩)
theorem wpHeadF_skip {bar : Nat} {C : World → Prop} {K : (World → Prop) → List Oper → Act → World → Prop} {m : Oper} {r : List Oper} {a : Act} {w : World} (hw : Region.wanted m (yielded ops a.tmps) = false)
    (h : K C r (a.put m.dst undef) w) : wpHeadF P ops bar K C (m :: r) a w := by
  simp only [wpHeadF]
  rw [if_neg (by rw [hw]; exact Bool.false_ne_true)]
  exact h
end
/-- the region's walk with fences and barriers. -/
theorem wp_region_fen {P : Program} {id : Nat} {Q : Exit → Act → World → Prop} {a : Act} {w : World} {l : List Oper} (S : Nat → Prop) [DecidablePred S] (ns : List (Nat × Nat)) (hm : P.follows .mixedOrders = true) (hB : (mixB2 l.toArray (mvOf (ns.map Prod.fst)) && fenB l.toArray (kindOf ns)) = true)
    (h : wpSegsF P l.toArray (fun a' w' => Q .normal a' w') ns (fun w' => ∃ x, w' = graft S w x) l a w.drew) : (Code.region id l.toArray true).wp P Q a w := by
  rw [Bool.and_eq_true] at hB
  exact wp_region_mixF0 (fenB_ok hB.2) hm hB.1 (fr_graft (Fr.drew (Fr.refl S w))) (mixF_of_segs ns _ l 0 a w.drew (by simp) (by simp) h)
end Go.Proofs.Ytiglabknaldinaa
