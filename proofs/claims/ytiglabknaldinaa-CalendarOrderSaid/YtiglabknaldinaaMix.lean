/- A region that draws its order, of steady operations (each yields one value in every world of a class) and moving ones (calls, appends, stores ..) that are chained by the region's own edges: ONE walk in the text's order serves every order. On the kit's Derived/Deep/Quiet. -/
import Derived.Test.YtiglabknaldinaaBase
namespace Go.Proofs.Ytiglabknaldinaa
open Go.RowKit

/-! ### An operation that moves the world: it returns. -/
def uponN (P : Program) (o : Oper) (a : Act) (K : Act → World → Prop) : Result Next → Prop
  | .ok (.value v) w' => K (a.put o.dst v) w'
  | .ok .skip w' => K (a.put o.dst undef) w'
  | .ok (.enter f args) w' => Calls P f args w' fun e w'' => ∃ v, e = .returned v ∧ K (a.put o.dst v) w''
  | .ok (.row row args) w' => Rows P row args w' fun v w'' => K (a.put o.dst v) w''
  | _ => False
def wpN (P : Program) (o : Oper) (a : Act) (w : World) (K : Act → World → Prop) : Prop := uponN P o a K ((execOp a.eval o).run P w)
section
variable {P : Program} {ops : Array Oper} {md : Region.Mode} {C : World → Prop}
theorem wpN_mono {o : Oper} {a : Act} {w : World} {K K' : Act → World → Prop} (h : ∀ u w', K (a.put o.dst u) w' → K' (a.put o.dst u) w') (hh : wpN P o a w K) : wpN P o a w K' := by
  unfold wpN at *
  generalize (execOp a.eval o).run P w = r at *
  cases r with
  | ok n w' =>
    cases n <;> simp only [uponN] at hh ⊢
    case value v => exact h _ _ hh
    case skip => exact h _ _ hh
    case enter f args => exact hh.mono fun e w'' ⟨v, he, hk⟩ => ⟨v, he, h _ _ hk⟩
    case row row args => exact hh.mono fun v w'' hk => h _ _ hk
  | halt x w' => simp only [uponN] at hh
theorem wpN_some {o : Oper} {a : Act} {w : World} {K : Act → World → Prop} (hh : wpN P o a w K) : ∃ u w', K (a.put o.dst u) w' := by
  unfold wpN at *
  generalize (execOp a.eval o).run P w = r at *
  cases r with
  | ok n w' =>
    cases n <;> simp only [uponN] at hh
    case value v => exact ⟨_, _, hh⟩
    case skip => exact ⟨_, _, hh⟩
    case enter f args => obtain ⟨_, w'', _, ⟨v, _, hk⟩, _⟩ := hh []; exact ⟨v, w'', hk⟩
    case row row args => obtain ⟨v, w'', hk, _⟩ := hh default []; exact ⟨v, w'', hk⟩
  | halt x w' => simp only [uponN] at hh
theorem wpN_of_eq {o : Oper} {a b : Act} {w : World} {K K' : Act → World → Prop} (he : execOp b.eval o = execOp a.eval o) (h : ∀ u w', K (a.put o.dst u) w' → K' (b.put o.dst u) w') (hh : wpN P o a w K) : wpN P o b w K' := by
  unfold wpN at *
  rw [he]
  generalize (execOp a.eval o).run P w = r at *
  cases r with
  | ok n w' =>
    cases n <;> simp only [uponN] at hh ⊢
    case value v => exact h _ _ hh
    case skip => exact h _ _ hh
    case enter f args => exact hh.mono fun e w'' ⟨v, he, hk⟩ => ⟨v, he, h _ _ hk⟩
    case row row args => exact hh.mono fun v w'' hk => h _ _ hk
  | halt x w' => simp only [uponN] at hh
theorem wp_of_wpN {o : Oper} {a : Act} {w : World} {K : Act → World → Prop} {Q : Exit → Act → World → Prop} (hh : wpN P o a w K) : o.wp P a w K Q := by
  unfold wpN at hh
  unfold Oper.wp
  generalize (execOp a.eval o).run P w = r at *
  cases r with
  | ok n w' =>
    cases n <;> simp only [uponN] at hh <;> simp only [Oper.upon]
    case value v => exact hh
    case skip => exact hh
    case enter f args => exact hh.mono fun e w'' ⟨v, he, hk⟩ => by subst he; exact hk
    case row row args => exact hh
  | halt x w' => simp only [uponN] at hh
/-- from the walk's own form: it neither panics nor defers. -/
theorem wpN_of_wp {o : Oper} {a : Act} {w : World} {K : Act → World → Prop} (hh : o.wp P a w (fun a' w' => a'.defers = a.defers ∧ K a' w') (fun _ _ _ => False)) : wpN P o a w K := by
  unfold wpN
  unfold Oper.wp at hh
  generalize (execOp a.eval o).run P w = r at *
  cases r with
  | ok n w' =>
    cases n <;> simp only [uponN] <;> simp only [Oper.upon] at hh
    case value v => exact hh.2
    case skip => exact hh.2
    case enter f args =>
      exact hh.mono fun e w'' hk => by
        cases e with
        | returned v => exact ⟨v, rfl, hk.2⟩
        | panicked c => exact hk.elim
        | outgrown => obtain ⟨_, _, hk⟩ := hk; exact hk.elim
    case row row args => exact hh.mono fun v w'' hk => hk.2
    case defer d =>
      have := hh.1
      cases hd : o.dst <;> simp [Act.put, hd] at this
  | halt x w' => cases x <;> simp only [Oper.upon] at hh

/-! ### All orders -/
def mvOp (P : Program) (ops : Array Oper) (i : Nat) (K : Act → World → Prop) (a : Act) (w : World) : Prop :=
  match ops[i]? with
  | none => K a w
  | some o => if Region.wanted o (yielded ops a.tmps) then wpN P o a w K else K (a.put o.dst undef) w
theorem mvOp_mono {i : Nat} {a : Act} {w : World} {K K' : Act → World → Prop} (h : ∀ a w, K a w → K' a w) (hh : mvOp P ops i K a w) : mvOp P ops i K' a w := by
  unfold mvOp at *
  split
  · exact h _ _ (by simpa [*] using hh)
  · rename_i o ho
    simp only [ho] at hh
    split
    · rename_i hw; simp only [hw, if_true] at hh; exact wpN_mono (fun _ _ hk => h _ _ hk) hh
    · rename_i hw; simp only [hw] at hh; exact h _ _ hh
theorem mvOp_some {i : Nat} {o : Oper} {a : Act} {w : World} {K : Act → World → Prop} (hi : ops[i]? = some o) (hh : mvOp P ops i K a w) : ∃ u w', K (a.put o.dst u) w' := by
  unfold mvOp at hh
  simp only [hi] at hh
  split at hh
  · exact wpN_some hh
  · exact ⟨_, _, hh⟩
theorem mvOp_of_eq {i : Nat} {o : Oper} {a b : Act} {w : World} {K K' : Act → World → Prop} (hi : ops[i]? = some o) (he : execOp b.eval o = execOp a.eval o)
    (hw : Region.wanted o (yielded ops b.tmps) = Region.wanted o (yielded ops a.tmps)) (h : ∀ u w', K (a.put o.dst u) w' → K' (b.put o.dst u) w') (hh : mvOp P ops i K a w) : mvOp P ops i K' b w := by
  unfold mvOp at *
  simp only [hi, hw] at *
  split
  · rename_i h1; rw [if_pos h1] at hh; exact wpN_of_eq he h hh
  · rename_i h1; rw [if_neg h1] at hh; exact h _ _ hh
theorem wpOp_of_mvOp {i : Nat} {a : Act} {w : World} {K : Act → World → Prop} {Q : Exit → Act → World → Prop} (hh : mvOp P ops i K a w) : wpOp P ops Q i K a w := by
  unfold mvOp at hh
  unfold wpOp
  split
  · rename_i ho; simpa only [ho] using hh
  · rename_i o ho
    simp only [ho] at hh
    split
    · rename_i hw; simp only [hw, if_true] at hh; exact .inl (wp_of_wpN hh)
    · rename_i hw; rw [if_neg hw] at hh; exact hh

/-- 'fin': the moving operations that come behind all others: behind them nothing is asked of the world. -/
def finC (md : Region.Mode) (ops : Array Oper) (C : World → Prop) (fin : Nat → Bool) (i : Nat) (listed : Array Bool) (w : World) : Prop := if fin i then Region.ready md ops (listed.setIfInBounds i true) = [] else C w
theorem finC_no {fin : Nat → Bool} {i : Nat} {listed listed' : Array Bool} {w : World} (hf : fin i = false) (h : finC md ops C fin i listed w) : finC md ops C fin i listed' w := by
  unfold finC at *
  rw [hf] at h ⊢
  exact h
def wpAnyM (P : Program) (md : Region.Mode) (ops : Array Oper) (C : World → Prop) (mv fin : Nat → Bool) (Q : Act → World → Prop) : Nat → Array Bool → Act → World → Prop
  | 0, listed, a, w => Region.ready md ops listed = [] ∧ Q a w
  | fuel + 1, listed, a, w =>
    (Region.ready md ops listed = [] → Q a w) ∧
    ∀ i ∈ Region.ready md ops listed,
      if mv i then mvOp P ops i (fun a' w' => finC md ops C fin i listed w' ∧ wpAnyM P md ops C mv fin Q fuel (listed.setIfInBounds i true) a' w') a w
      else qOp P ops C i (fun a' => wpAnyM P md ops C mv fin Q fuel (listed.setIfInBounds i true) a' w) a

theorem value_noenter {s : Sem Value} {w w' : World} {f : FuncId} {args : Array Value} (h : (do let x ← s; pure (Next.value x) : Sem Next).run P w = .ok (.enter f args) w') : False := by
  rw [Sem.run_bind] at h
  cases hs : s.run P w with
  | ok x w1 => rw [hs] at h; simp at h
  | halt x w1 => rw [hs] at h; simp at h
theorem unit_noenter {s : Sem Unit} {w w' : World} {f : FuncId} {args : Array Value} (h : (do s; pure Next.skip : Sem Next).run P w = .ok (.enter f args) w') : False := by
  rw [Sem.run_bind] at h
  cases hs : s.run P w with
  | ok x w1 => rw [hs] at h; simp at h
  | halt x w1 => rw [hs] at h; simp at h
/-- an operation that never enters a function -/
def calm (o : Oper) : Bool :=
  match o.op with
  | .call { callee := .builtin .len, .. } | .call { callee := .builtin .cap, .. } | .call { callee := .builtin .min, .. } | .call { callee := .builtin .max, .. } => true
  | .move _ | .assign _ | .pick .. | .load .. | .nilCheck _ | .binOp .. | .unOp .. | .convert .. | .fieldAddr .. | .field .. | .indexAddr .. | .index .. | .extract .. | .slice .. | .makeFunc .. => true
  | _ => false
theorem calm_noenter {o : Oper} {ρ : Operand → Value} {w w' : World} {f : FuncId} {args : Array Value} (hc : calm o = true) (h : (execOp ρ o).run P w = .ok (.enter f args) w') : False := by
  unfold calm at hc
  cases hop : o.op <;> simp only [hop, Bool.false_eq_true] at hc <;> simp only [execOp, hop] at h
  case move x => simp at h
  case assign x => simp at h
  case pick c x y =>
    rw [Sem.run_bind] at h
    cases hs : (asBool (ρ c)).run P w with
    | ok x w1 => rw [hs] at h; simp at h
    | halt x w1 => rw [hs] at h; simp at h
  case nilCheck x =>
    split at h
    all_goals first
      | (simp at h; done)
      | (simp [runtimePanic] at h; done)
      | skip
    all_goals (try split at h)
    all_goals first
      | (simp at h; done)
      | (simp [runtimePanic] at h; done)
      | skip
    rename_i t0 w0 _
    rw [Sem.run_bind] at h
    cases hp : (program).run P w with
    | halt y w1 => rw [hp] at h; simp at h
    | ok y w1 =>
      rw [hp] at h
      simp only [Result.andThen_ok] at h
      rw [Sem.run_bind] at h
      cases hs : (nilAhead (y.types.size + Made.depth) t0 w0 _).run P w1 with
      | halt y w2 => rw [hs] at h; simp at h
      | ok y w2 =>
        rw [hs] at h
        simp only [Result.andThen_ok] at h
        split at h
        · rw [Sem.run_bind] at h
          simp [unsupported] at h
        · simp at h
  case call c =>
    obtain ⟨callee, args', ats⟩ := c
    cases callee with
    | builtin b =>
      simp only [resolve, Sem.run_bind, Sem.run_pure, Result.andThen_ok, invoke, builtin] at h
      cases b <;> simp only [Bool.false_eq_true] at hc <;> exact value_noenter h
    | value f => simp at hc
    | invoke r n => simp at hc
  all_goals exact value_noenter h

/-- a steady operation's value, in a world of the class: the world stays. -/
theorem quiet_calm {o : Oper} {a : Act} {w : World} {v : Value} (hc : calm o = true) (h : o.quietAt P a C w v) :
    (execOp a.eval o).run P w = .ok (.value v) w ∨ ((execOp a.eval o).run P w = .ok .skip w ∧ v = undef) := by
  unfold Oper.quietAt at h
  generalize hr : (execOp a.eval o).run P w = r at h
  cases r with
  | ok n w' =>
    cases n <;> simp only [Oper.quietUpon] at h
    case value u => obtain ⟨rfl, rfl⟩ := h; exact .inl rfl
    case skip => obtain ⟨rfl, rfl⟩ := h; exact .inr ⟨rfl, rfl⟩
    case enter f args => exact (calm_noenter hc hr).elim
  | halt x w' => simp only [Oper.quietUpon] at h
theorem quiet_det {o : Oper} {a : Act} {w : World} {v u : Value} (hc : calm o = true) (h : o.quietAt P a C w v) (k : o.quietAt P a C w u) : v = u := by
  rcases quiet_calm hc h with h1 | ⟨h1, h2⟩ <;> rcases quiet_calm hc k with k1 | ⟨k1, k2⟩ <;> rw [h1] at k1 <;> simp_all
theorem yields_det {o : Oper} {a : Act} {w : World} {v u : Value} (hw : C w) (hc : calm o = true) (h : YieldsIn P ops C o v a) (k : YieldsIn P ops C o u a) : v = u := by
  rcases h with ⟨h1, h2⟩ | ⟨h1, rfl⟩ <;> rcases k with ⟨k1, k2⟩ | ⟨k1, rfl⟩
  · exact quiet_det hc (h2 w hw) (k2 w hw)
  · rw [h1] at k1; cases k1
  · rw [h1] at k1; cases k1
  · rfl

/-- Which operations come behind k by the region's own edges. -/
def reachL (md : Region.Mode) (k : Nat) : List Oper → Nat → Array Bool → Array Bool
  | [], _, acc => acc
  | o :: r, i, acc => reachL md k r (i + 1) (acc.push (i == k || o.after.any fun e => Region.binds md e && acc.getD e.on false))
def ReachOk (md : Region.Mode) (ops : Array Oper) (k : Nat) (acc : Array Bool) : Prop :=
  ∀ j, acc.getD j false = true → j = k ∨ ∃ o, ops[j]? = some o ∧ ∃ e ∈ o.after, Region.binds md e = true ∧ e.on < j ∧ acc.getD e.on false = true
theorem reachL_ok (k : Nat) : ∀ (l : List Oper) (i : Nat) (acc : Array Bool), acc.size = i → (∀ j, l[j]? = ops[i + j]?) → ReachOk md ops k acc → ReachOk md ops k (reachL md k l i acc)
  | [], _, _, _, _, h => h
  | o :: r, i, acc, hs, hl, h => by
    refine reachL_ok k r (i + 1) _ (by simp [hs]) (fun j => by have := hl (j + 1); simpa [Nat.add_assoc, Nat.add_comm 1 j] using this) ?_
    have old : ∀ j, j < i → ∀ x, (acc.push x).getD j false = acc.getD j false := fun j hj x => by
      simp [Array.getElem?_push, hs, show j ≠ i by omega]
    have lt : ∀ j, acc.getD j false = true → j < i := fun j hj => by
      rcases Nat.lt_or_ge j acc.size with h' | h'
      · omega
      · simp [Array.getElem?_eq_none h'] at hj
    intro j hj
    rcases Nat.lt_trichotomy j i with hlt | rfl | hgt
    · rw [old j hlt] at hj
      rcases h j hj with h1 | ⟨o', ho, e, he, hb, hlt', hr⟩
      · exact .inl h1
      · exact .inr ⟨o', ho, e, he, hb, hlt', by rw [old _ (by omega)]; exact hr⟩
    · have e1 : ∀ x, (acc.push x).getD acc.size false = x := fun x => by simp
      rw [← hs, e1, Bool.or_eq_true, beq_iff_eq, Array.any_eq_true'] at hj
      rw [← hs]
      rcases hj with hj | ⟨e, he, hbr⟩
      · exact .inl hj
      · rw [Bool.and_eq_true] at hbr
        obtain ⟨hb, hr'⟩ := hbr
        have := lt _ hr'
        exact .inr ⟨o, by rw [hs]; simpa using (hl 0).symm, e, he, hb, by omega, by rw [old _ this]; exact hr'⟩
    · have e2 : ∀ x, (acc.push x).getD j false = false := fun x => by
        have : (acc.push x)[j]? = none := Array.getElem?_eq_none (by simp; omega)
        simp [this]
      rw [e2] at hj
      cases hj
theorem reach_ok (k : Nat) : ReachOk md ops k (reachL md k ops.toList 0 #[]) :=
  reachL_ok k ops.toList 0 #[] rfl (by simp) (fun j hj => by simp at hj)

/-- what has come up has all come up that it waits for. -/
def Closed (md : Region.Mode) (ops : Array Oper) (listed : Array Bool) : Prop :=
  ∀ j o, ops[j]? = some o → listed.getD j false = true → ∀ e ∈ o.after, Region.binds md e = true → listed.getD e.on false = true
theorem getD_true {listed : Array Bool} {j : Nat} (h : listed.getD j false = true) : listed.getD j true = true := by
  rcases Nat.lt_or_ge j listed.size with h' | h'
  · simp [h'] at h ⊢; exact h
  · simp [Array.getElem?_eq_none h'] at h
theorem Closed.step {listed : Array Bool} {i : Nat} (h : Closed md ops listed) (hi : i ∈ Region.ready md ops listed) : Closed md ops (listed.setIfInBounds i true) := by
  intro j o ho hj e he hb
  by_cases hji : j = i
  · subst hji
    obtain ⟨_, o', ho', hall⟩ := mem_ready.1 hi
    rw [ho] at ho'
    cases ho'
    exact getD_set_true (hall e he hb)
  · rw [getD_set_ne false (Ne.symm hji)] at hj
    exact getD_set_true (h j o ho hj e he hb)
theorem reach_listed {acc listed : Array Bool} {k : Nat} (hr : ReachOk md ops k acc) (hc : Closed md ops listed) : ∀ n j, j < n → acc.getD j false = true → j ≠ k →
    (∀ o, ops[j]? = some o → ∀ e ∈ o.after, Region.binds md e = true → listed.getD e.on false = true) → listed.getD k false = true := by
  intro n
  induction n with
  | zero => intro j hj; omega
  | succ n ih =>
    intro j hj hacc hne hall
    rcases hr j hacc with h | ⟨o, ho, e, he, hb, hlt, hacc'⟩
    · exact absurd h hne
    · have hl := hall o ho e he hb
      by_cases hk : e.on = k
      · rw [← hk]; exact hl
      · exact ih e.on (by omega) hacc' hk (fun o' ho' e' he' hb' => hc e.on o' ho' hl e' he' hb')

theorem notOn {i : Nat} {listed : Array Bool} {oj : Oper} (hr : i ∈ Region.ready md ops listed) (hall : ∀ e ∈ oj.after, Region.binds md e = true → listed.getD e.on false = true) : ∀ e ∈ oj.after, Region.binds md e = true → e.on ≠ i :=
  fun e he hb heq => by
    have h1 := hall e he hb
    have h0 := (mem_ready.1 hr).1
    rw [heq] at h1
    rw [getD_true h1] at h0
    cases h0
theorem free_step {i j : Nat} {oi : Oper} {listed : Array Bool} (hjun : listed.getD j true = false)
    (hfree : ∀ k ok, ops[k]? = some ok → k ≠ i → listed.getD k true = false → (∀ e ∈ ok.after, Region.binds md e = true → e.on ≠ i) → oi.apart ops ok = true) :
    ∀ k ok, ops[k]? = some ok → k ≠ i → (listed.setIfInBounds j true).getD k true = false → (∀ e ∈ ok.after, Region.binds md e = true → e.on ≠ i) → oi.apart ops ok = true := fun k ok hk hki hun hno => by
  refine hfree k ok hk hki ?_ hno
  by_cases hjk : j = k
  · subst hjk; exact hjun
  · rw [getD_set_ne true hjk] at hun; exact hun

def FinOk (md : Region.Mode) (ops : Array Oper) (fin : Nat → Bool) : Prop := ∀ i j, fin j = true → i < ops.size → i ≠ j → (reachL md i ops.toList 0 #[]).getD j false = true
theorem fin_last {fin : Nat → Bool} {listed : Array Bool} {i j : Nat} (hF : FinOk md ops fin) (hcl : Closed md ops listed) (hi : i ∈ Region.ready md ops listed) (hj : j ∈ Region.ready md ops listed) (hij : i ≠ j) : fin j = false := by
  cases hfj : fin j with
  | false => rfl
  | true =>
    obtain ⟨hiun, oi, hoi, _⟩ := mem_ready.1 hi
    obtain ⟨_, oj, hoj, hall⟩ := mem_ready.1 hj
    have hr := hF i j hfj (Array.getElem?_eq_some_iff.1 hoi).1 hij
    have := reach_listed (reach_ok (md := md) (ops := ops) i) hcl (j + 1) j (by omega) hr (Ne.symm hij) (fun o ho e he hb => by rw [hoj] at ho; cases ho; exact hall e he hb)
    rw [getD_true this] at hiun
    cases hiun

/-- A steady operation that may come up now may be taken first. -/
theorem anyM_steady {mv fin : Nat → Bool} (hF : FinOk md ops fin) {Q : Act → World → Prop} {i : Nat} {oi : Oper} {v : Value} (hi : ops[i]? = some oi) (hmi : mv i = false) (hsel : ∀ (j : Nat) (o : Oper) cs b, ops[j]? = some o → o.op ≠ .select cs b) :
    ∀ (fuel : Nat) (listed : Array Bool) (a : Act) (w : World),
      (∀ j oj, ops[j]? = some oj → j ≠ i → listed.getD j true = false → (∀ e ∈ oj.after, Region.binds md e = true → e.on ≠ i) → oi.apart ops oj = true) →
      Closed md ops listed → i ∈ Region.ready md ops listed → YieldsIn P ops C oi v a →
      wpAnyM P md ops C mv fin Q fuel (listed.setIfInBounds i true) (a.put oi.dst v) w → wpAnyM P md ops C mv fin Q (fuel + 1) listed a w := by
  intro fuel
  induction fuel with
  | zero =>
    intro listed a w _ _ hr hy H
    refine ⟨fun h => (by rw [h] at hr; cases hr), fun j hj => ?_⟩
    by_cases hji : j = i
    · subst hji; rw [hmi, if_neg Bool.false_ne_true]; exact hy.qOp hi H
    · have := ready_mono hj hji
      rw [H.1] at this
      cases this
  | succ fuel ih =>
    intro listed a w hfree hcl hr hy H
    refine ⟨fun h => (by rw [h] at hr; cases hr), fun j hj => ?_⟩
    by_cases hji : j = i
    · subst hji; rw [hmi, if_neg Bool.false_ne_true]; exact hy.qOp hi H
    · have h1 := H.2 j (ready_mono hj hji)
      obtain ⟨hjun, oj, hoj, hall⟩ := mem_ready.1 hj
      have hap := hfree j oj hoj hji hjun (notOn hr hall)
      obtain ⟨p1, p2, p3⟩ := Oper.apart_spec hap
      have hfree' := free_step (md := md) (ops := ops) (oi := oi) hjun hfree
      have keep : ∀ u, YieldsIn P ops C oi v (a.put oj.dst u) := fun u =>
        hy.of_same (execOp_put oi (fun cs b => hsel i oi cs b hi) a oj.dst u p3) (wanted_put oi a oj.dst u p3)
      cases hmj : mv j
      · rw [hmj, if_neg Bool.false_ne_true] at h1
        rw [if_neg Bool.false_ne_true]
        have h2 := qOp_put hoj hap (fun cs b => hsel i oi cs b hi) (fun cs b => hsel j oj cs b hoj) hy h1
        refine qOp_mono (fun a' h3 => ih (listed.setIfInBounds j true) a' w hfree' (hcl.step hj) (ready_mono hr (Ne.symm hji)) h3.1 ?_) h2
        rw [Array.setIfInBounds_comm _ _ hji]
        exact h3.2
      · rw [hmj, if_pos rfl] at h1
        rw [if_pos rfl]
        refine mvOp_of_eq hoj (execOp_put oj (fun cs b => hsel j oj cs b hoj) a oi.dst v p1).symm (wanted_put oj a oi.dst v p1).symm (fun u w' hk => ⟨finC_no (fin_last hF hcl hr hj (Ne.symm hji)) hk.1, ?_⟩) h1
        refine ih (listed.setIfInBounds j true) (a.put oj.dst u) w' hfree' (hcl.step hj) (ready_mono hr (Ne.symm hji)) (keep u) ?_
        rw [Array.setIfInBounds_comm _ _ hji, ← Act.put_comm a v u p2]
        exact hk.2

/-- A moving operation, the first of those that are left, may be taken first. -/
theorem anyM_moving {mv fin : Nat → Bool} (hF : FinOk md ops fin) {Q : Act → World → Prop} {i : Nat} {oi : Oper} (hi : ops[i]? = some oi) (hmi : mv i = true) (hsel : ∀ (j : Nat) (o : Oper) cs b, ops[j]? = some o → o.op ≠ .select cs b)
    (hcalm : ∀ j o, ops[j]? = some o → mv j = false → calm o = true) (hreach : ∀ j, i < j → j < ops.size → mv j = true → (reachL md i ops.toList 0 #[]).getD j false = true) :
    ∀ (fuel : Nat) (listed : Array Bool) (a : Act) (w : World),
      (∀ j oj, ops[j]? = some oj → j ≠ i → listed.getD j true = false → (∀ e ∈ oj.after, Region.binds md e = true → e.on ≠ i) → oi.apart ops oj = true) →
      Closed md ops listed → (∀ j, j < i → listed.getD j true = true) → i ∈ Region.ready md ops listed → C w →
      mvOp P ops i (fun a' w' => finC md ops C fin i listed w' ∧ wpAnyM P md ops C mv fin Q fuel (listed.setIfInBounds i true) a' w') a w → wpAnyM P md ops C mv fin Q (fuel + 1) listed a w := by
  intro fuel
  induction fuel with
  | zero =>
    intro listed a w _ _ _ hr _ H
    refine ⟨fun h => (by rw [h] at hr; cases hr), fun j hj => ?_⟩
    by_cases hji : j = i
    · subst hji; rw [hmi, if_pos rfl]; exact H
    · obtain ⟨u, w', _, hk⟩ := mvOp_some hi H
      have := ready_mono hj hji
      rw [hk.1] at this
      cases this
  | succ fuel ih =>
    intro listed a w hfree hcl hlow hr hw H
    refine ⟨fun h => (by rw [h] at hr; cases hr), fun j hj => ?_⟩
    by_cases hji : j = i
    · subst hji; rw [hmi, if_pos rfl]; exact H
    · obtain ⟨hjun, oj, hoj, hall⟩ := mem_ready.1 hj
      have hjsz : j < ops.size := (Array.getElem?_eq_some_iff.1 hoj).1
      have hij : i < j := by
        rcases Nat.lt_or_ge j i with h | h
        · rw [hlow j h] at hjun; cases hjun
        · omega
      have hmj : mv j = false := by
        cases hmj : mv j with
        | false => rfl
        | true =>
          have := reach_listed (reach_ok (md := md) (ops := ops) i) hcl (j + 1) j (by omega) (hreach j hij hjsz hmj) (by omega) (fun o ho e he hb => by rw [hoj] at ho; cases ho; exact hall e he hb)
          have h0 := (mem_ready.1 hr).1
          rw [getD_true this] at h0
          cases h0
      have hap := hfree j oj hoj hji hjun (notOn hr hall)
      obtain ⟨p1, p2, p3⟩ := Oper.apart_spec hap
      have hsi : ∀ cs b, oi.op ≠ .select cs b := fun cs b => hsel i oi cs b hi
      have hsj : ∀ cs b, oj.op ≠ .select cs b := fun cs b => hsel j oj cs b hoj
      have hr' := ready_mono hj hji
      have move : ∀ u v, YieldsIn P ops C oj v (a.put oi.dst u) → YieldsIn P ops C oj v a := fun u v h =>
        h.of_same (execOp_put oj hsj a oi.dst u p1).symm (wanted_put oj a oi.dst u p1).symm
      obtain ⟨u0, w0, _, hk0⟩ := mvOp_some hi H
      have hq := hk0.2 j hr'
      rw [hmj, if_neg Bool.false_ne_true] at hq
      obtain ⟨v, hy, _⟩ := yieldsIn_of_qOp hoj hq
      have hya := move _ _ hy
      rw [hmj, if_neg Bool.false_ne_true]
      refine hya.qOp hoj ?_
      refine ih (listed.setIfInBounds j true) (a.put oj.dst v) w (free_step (md := md) (ops := ops) (oi := oi) hjun hfree) (hcl.step hj) (fun k hk => ?_) (ready_mono hr (Ne.symm hji)) hw ?_
      · by_cases hkj : j = k
        · omega
        · rw [getD_set_ne true hkj]; exact hlow k hk
      · refine mvOp_of_eq hi (execOp_put oi hsi a oj.dst v p3) (wanted_put oi a oj.dst v p3) (fun u w' hk => ⟨finC_no (fin_last hF hcl hj hr hji) hk.1, ?_⟩) H
        have hq' := hk.2.2 j hr'
        rw [hmj, if_neg Bool.false_ne_true] at hq'
        obtain ⟨v', hy', hk'⟩ := yieldsIn_of_qOp hoj hq'
        have := yields_det hw (hcalm j oj hoj hmj) hya (move _ _ hy')
        subst this
        rw [Array.setIfInBounds_comm _ _ hji, Act.put_comm a v u (fun d hd h => p2 d h hd)]
        exact hk'

/-! ### The walk in the text's order -/
def wpMix (P : Program) (ops : Array Oper) (C : World → Prop) (mv fin : Nat → Bool) (Q : Act → World → Prop) : List Oper → Nat → Act → World → Prop
  | [], _, a, w => Q a w
  | o :: r, k, a, w => if Region.wanted o (yielded ops a.tmps) then (if mv k then wpN P o a w (fun a' w' => (fin k = false → C w') ∧ wpMix P ops C mv fin Q r (k + 1) a' w') else o.quiet P a C (fun a' => wpMix P ops C mv fin Q r (k + 1) a' w)) else wpMix P ops C mv fin Q r (k + 1) (a.put o.dst undef) w
def mixFrom (md : Region.Mode) (ops : Array Oper) (mv : Nat → Bool) : Nat → Nat → Array Bool → Bool
  | 0, _, listed => (Region.ready md ops listed).isEmpty
  | fuel + 1, k, listed => (Region.ready md ops listed).contains k && Region.free md ops listed k &&
      (!mv k || (List.range ops.size).all fun j => !(decide (k < j) && mv j) || (reachL md k ops.toList 0 #[]).getD j false) && mixFrom md ops mv fuel (k + 1) (listed.setIfInBounds k true)
def mixB (ops : Array Oper) (mv : Nat → Bool) : Bool :=
  Region.noSelect ops && ((List.range ops.size).all fun j => mv j || (ops[j]?).all calm) && mixFrom .any ops mv ops.size 0 (Array.replicate ops.size false)
theorem anyM_lex {mv fin : Nat → Bool} (hF : FinOk md ops fin) (hlast : ∀ k, fin k = true → k + 1 = ops.size) {Q : Act → World → Prop} (hs : Region.noSelect ops = true) (hcalm : ∀ j o, ops[j]? = some o → mv j = false → calm o = true) : ∀ (l : List Oper) (k : Nat) (listed : Array Bool) (a : Act) (w : World), (∀ j, l[j]? = ops[k + j]?) →
    mixFrom md ops mv l.length k listed = true → Closed md ops listed → (∀ j, j < k → listed.getD j true = true) → (l ≠ [] → C w) → wpMix P ops C mv fin Q l k a w → wpAnyM P md ops C mv fin Q l.length listed a w
  | [], _, _, _, _, _, hB, _, _, _, h => ⟨by simpa [mixFrom] using hB, h⟩
  | o :: l, k, listed, a, w, hl, hB, hcl, hlow, hw', h => by
    have hw : C w := hw' (by simp)
    have h0 : ops[k]? = some o := by simpa using (hl 0).symm
    simp only [List.length_cons, mixFrom, Bool.and_eq_true] at hB
    obtain ⟨⟨⟨hr, hf⟩, hm⟩, hB'⟩ := hB
    have hr' : k ∈ Region.ready md ops listed := by simpa using hr
    have hl' : ∀ j, l[j]? = ops[k + 1 + j]? := fun j => by have := hl (j + 1); simpa [Nat.add_assoc, Nat.add_comm 1 j] using this
    have hlow' : ∀ j, j < k + 1 → (listed.setIfInBounds k true).getD j true = true := fun j hj => by
      by_cases hjk : k = j
      · subst hjk
        by_cases hks : k < listed.size <;> simp [hks]
      · rw [getD_set_ne true hjk]; exact hlow j (by omega)
    unfold wpMix at h
    cases hmk : mv k with
    | false =>
      have hst : qOp P ops C k (fun a' => wpMix P ops C mv fin Q l (k + 1) a' w) a := by
        unfold qOp
        simp only [h0]
        simp only [hmk, Bool.false_eq_true, if_false] at h
        exact h
      obtain ⟨v, hy, hK⟩ := yieldsIn_of_qOp h0 hst
      exact anyM_steady hF h0 hmk (Region.noSelect_spec hs) l.length listed a w (Region.free_spec h0 hf) hcl hr' hy
        (anyM_lex hF hlast hs hcalm l (k + 1) _ _ w hl' hB' (hcl.step hr') hlow' (fun _ => hw) hK)
    | true =>
      have hmvo : mvOp P ops k (fun a' w' => (fin k = false → C w') ∧ wpMix P ops C mv fin Q l (k + 1) a' w') a w := by
        unfold mvOp
        simp only [h0]
        simp only [hmk, if_true] at h
        split
        · rename_i hwd; rw [if_pos hwd] at h; exact h
        · rename_i hwd; rw [if_neg hwd] at h; exact ⟨fun _ => hw, h⟩
      simp only [hmk, Bool.not_true, Bool.false_or, List.all_eq_true, List.mem_range] at hm
      refine anyM_moving hF h0 hmk (Region.noSelect_spec hs) hcalm (fun j hkj hjs hmj => ?_) l.length listed a w (Region.free_spec h0 hf) hcl hlow hr' hw
        (mvOp_mono (fun a' w' hk => by
          cases hfk : fin k with
          | false => exact ⟨by unfold finC; rw [hfk]; exact hk.1 hfk, anyM_lex hF hlast hs hcalm l (k + 1) _ _ w' hl' hB' (hcl.step hr') hlow' (fun _ => hk.1 hfk) hk.2⟩
          | true =>
            have hsz := hlast k hfk
            have hnil : l = [] := by
              cases l with
              | nil => rfl
              | cons o' l' =>
                exfalso
                have := hl' 0
                rw [List.getElem?_cons_zero] at this
                have := (Array.getElem?_eq_some_iff.1 this.symm).1
                omega
            refine ⟨?_, anyM_lex hF hlast hs hcalm l (k + 1) _ _ w' hl' hB' (hcl.step hr') hlow' (fun h => absurd hnil h) hk.2⟩
            unfold finC
            rw [hfk, if_pos rfl]
            subst hnil
            simpa [mixFrom] using hB') hmvo)
      have := hm j hjs
      simp only [hkj, decide_true, hmj, Bool.and_true, Bool.not_true, Bool.false_or] at this
      exact this
theorem wpAny_ready {Q : Exit → Act → World → Prop} {listed : Array Bool} {a : Act} {w : World} (hr : Region.ready md ops listed = []) (hQ : Q .normal a w) : ∀ fuel, wpAny P md ops Q fuel listed a w
  | 0 => ⟨hr, hQ⟩
  | fuel + 1 => ⟨fun _ => hQ, fun i hi => by rw [hr] at hi; cases hi⟩
theorem anyM_ready {mv fin : Nat → Bool} {Q : Act → World → Prop} {listed : Array Bool} {a : Act} {w : World} (hr : Region.ready md ops listed = []) : ∀ fuel, wpAnyM P md ops C mv fin Q fuel listed a w → Q a w
  | 0, h => h.2
  | _ + 1, h => h.1 hr
theorem wpAny_of_M {mv fin : Nat → Bool} {Q : Act → World → Prop} {Q' : Exit → Act → World → Prop} (hcalm : ∀ j o, ops[j]? = some o → mv j = false → calm o = true) (hQ : ∀ a w, Q a w → Q' .normal a w) : ∀ (fuel : Nat) (listed : Array Bool) (a : Act) (w : World), C w →
    wpAnyM P md ops C mv fin Q fuel listed a w → wpAny P md ops Q' fuel listed a w
  | 0, _, _, _, _, h => ⟨h.1, hQ _ _ h.2⟩
  | fuel + 1, listed, a, w, hw, h => ⟨fun h0 => hQ _ _ (h.1 h0), fun i hi => by
      have h1 := h.2 i hi
      split at h1
      · exact wpOp_of_mvOp (mvOp_mono (fun a' w' hk => by
          have h1 := hk.1
          unfold finC at h1
          cases hfi : fin i with
          | false => rw [hfi] at h1; exact wpAny_of_M hcalm hQ fuel _ a' w' h1 hk.2
          | true => rw [hfi, if_pos rfl] at h1; exact wpAny_ready h1 (hQ _ _ (anyM_ready h1 fuel hk.2)) fuel) h1)
      · rename_i hmi
        unfold qOp at h1
        unfold wpOp
        split
        · rename_i ho; simp only [ho] at h1; exact wpAny_of_M hcalm hQ fuel _ _ _ hw h1
        · rename_i o ho
          simp only [ho] at h1
          split
          · rename_i hwd
            rw [if_pos hwd] at h1
            obtain ⟨v, hv, hk⟩ := h1
            refine .inl ?_
            unfold Oper.wp
            rcases quiet_calm (hcalm _ o ho (by simpa using hmi)) (hv w hw) with hr | ⟨hr, rfl⟩ <;> rw [hr] <;> exact wpAny_of_M hcalm hQ fuel _ _ _ hw hk
          · rename_i hwd; rw [if_neg hwd] at h1; exact wpAny_of_M hcalm hQ fuel _ _ _ hw h1⟩

theorem wp_region_mix0 {id : Nat} {Q : Exit → Act → World → Prop} {a : Act} {w : World} {mv fin : Nat → Bool} (hF : FinOk .any ops fin) (hlast : ∀ k, fin k = true → k + 1 = ops.size) (hm : P.follows .mixedOrders = true) (hB : mixB ops mv = true) (hC : C w.drew)
    (h : wpMix P ops C mv fin (fun a' w' => Q .normal a' w') ops.toList 0 a w.drew) : (Code.region id ops true).wp P Q a w := by
  simp only [mixB, Bool.and_eq_true, List.all_eq_true, List.mem_range] at hB
  obtain ⟨⟨h1, h2⟩, h3⟩ := hB
  have hcalm : ∀ j o, ops[j]? = some o → mv j = false → calm o = true := fun j o ho hmj => by
    have := h2 j (Array.getElem?_eq_some_iff.1 ho).1
    simpa [hmj, ho] using this
  refine wp_region_any hm (wpAny_of_M (fin := fin) hcalm (Q := fun a' w' => Q .normal a' w') (fun _ _ h => h) _ _ _ _ hC ?_)
  have := anyM_lex (C := C) (md := .any) hF hlast h1 hcalm ops.toList 0 (Array.replicate ops.size false) a w.drew (by simp) (by simpa using h3)
    (fun j o _ hj => by
      exfalso
      by_cases hjs : j < ops.size
      · simp [hjs] at hj
      · simp [hjs] at hj) (fun j hj => by omega) (fun _ => hC) h
  simpa using this

/-! ### In segments: n steady operations, a moving one, and so on -/
def wpHead (P : Program) (ops : Array Oper) (C : World → Prop) (last : Bool) (K : List Oper → Act → World → Prop) : List Oper → Act → World → Prop
  | [], _, _ => False
  | m :: r, a, w => if Region.wanted m (yielded ops a.tmps) then wpN P m a w (fun a' w' => ((last = false ∨ r ≠ []) → C w') ∧ K r a' w') else K r (a.put m.dst undef) w
def wpSegs (P : Program) (ops : Array Oper) (C : World → Prop) (last : Bool) (Q : Act → World → Prop) : List Nat → List Oper → Act → World → Prop
  | [], l, a, w => wpQuiet P ops C (fun a' => Q a' w) l a
  | n :: ns, l, a, w => wpQuiet P ops C (fun a' => wpHead P ops C last (wpSegs P ops C last Q ns) (l.drop n) a' w) (l.take n) a
def mvOf : List Nat → Nat → Bool
  | [], _ => false
  | n :: ns, k => k == n || (decide (n < k) && mvOf ns (k - (n + 1)))
theorem wpQuiet_mono {Q Q' : Act → Prop} (h : ∀ a, Q a → Q' a) : ∀ (l : List Oper) (a : Act), wpQuiet P ops C Q l a → wpQuiet P ops C Q' l a
  | [], _, hh => h _ hh
  | o :: r, a, hh => by
    unfold wpQuiet at *
    split
    · rename_i hw; rw [if_pos hw] at hh; exact Oper.quiet_mono (fun a' => wpQuiet_mono h r a') hh
    · rename_i hw; rw [if_neg hw] at hh; exact wpQuiet_mono h r _ hh
theorem mix_prefix {mv fin : Nat → Bool} {Q : Act → World → Prop} {r : List Oper} {w : World} : ∀ (s : List Oper) (k : Nat) (a : Act), (∀ j, j < s.length → mv (k + j) = false) →
    wpQuiet P ops C (fun a' => wpMix P ops C mv fin Q r (k + s.length) a' w) s a → wpMix P ops C mv fin Q (s ++ r) k a w
  | [], k, a, _, h => by simpa [wpQuiet] using h
  | o :: s, k, a, hm, h => by
    have h0 : mv k = false := by have := hm 0 (by simp); simpa using this
    have hm' : ∀ j, j < s.length → mv (k + 1 + j) = false := fun j hj => by have := hm (j + 1) (by simp; omega); simpa [Nat.add_assoc, Nat.add_comm 1 j] using this
    have hk : k + 1 + s.length = k + (o :: s).length := by simp; omega
    show wpMix P ops C mv fin Q (o :: (s ++ r)) k a w
    unfold wpMix
    unfold wpQuiet at h
    split
    · rename_i hw
      rw [if_pos hw] at h
      simp only [h0, Bool.false_eq_true, if_false]
      exact Oper.quiet_mono (fun a' h' => mix_prefix s (k + 1) a' hm' (by rw [hk]; exact h')) h
    · rename_i hw
      rw [if_neg hw] at h
      exact mix_prefix s (k + 1) _ hm' (by rw [hk]; exact h)
/-- 'fin' is the last place alone, or none. -/
def finAt (last : Bool) (n k : Nat) : Bool := last && (k + 1 == n)
theorem mix_of_segs {mv : Nat → Bool} {last : Bool} {n0 : Nat} {Q : Act → World → Prop} : ∀ (ns : List Nat) (l : List Oper) (k : Nat) (a : Act) (w : World), k + l.length = n0 → (∀ j, mv (k + j) = mvOf ns j) → wpSegs P ops C last Q ns l a w → wpMix P ops C mv (finAt last n0) Q l k a w
  | [], l, k, a, w, _, hm, h => by
    have := mix_prefix (P := P) (ops := ops) (C := C) (mv := mv) (fin := finAt last n0) (Q := Q) (r := []) (w := w) l k a (fun j _ => by rw [hm]; rfl) (wpQuiet_mono (fun a' h => by unfold wpMix; exact h) l a h)
    simpa using this
  | n :: ns, l, k, a, w, hn0, hm, h => by
    unfold wpSegs at h
    rw [← List.take_append_drop n l]
    refine mix_prefix (l.take n) k a (fun j hj => ?_) (wpQuiet_mono (fun a' h' => ?_) _ _ h)
    · rw [List.length_take] at hj
      rw [hm]
      simp only [mvOf]
      have h1 : (j == n) = false := by simp; omega
      have h2 : decide (n < j) = false := by simp; omega
      simp [h1, h2]
    · generalize hd : l.drop n = d at h'
      cases d with
      | nil => exact h'.elim
      | cons m r =>
        have hlen : (l.take n).length = n := by
          have : (l.drop n).length = l.length - n := List.length_drop
          rw [hd] at this
          simp at this ⊢
          omega
        have hmn : mv (k + (l.take n).length) = true := by rw [hlen, hm]; simp [mvOf]
        have hm' : ∀ j, mv (k + (l.take n).length + 1 + j) = mvOf ns j := fun j => by
          rw [hlen, show k + n + 1 + j = k + (n + 1 + j) by omega, hm]
          simp only [mvOf]
          have h1 : (n + 1 + j == n) = false := by simp; omega
          have h2 : decide (n < n + 1 + j) = true := by simp; omega
          rw [h1, h2, show n + 1 + j - (n + 1) = j by omega]
          simp
        have hlr : l.length = n + (r.length + 1) := by
          have h2 : (l.drop n).length = l.length - n := List.length_drop
          rw [hd] at h2
          rw [List.length_take] at hlen
          simp at h2
          omega
        unfold wpMix
        simp only [wpHead] at h'
        split
        · rename_i hw
          rw [if_pos hw] at h'
          refine wpN_mono (fun u w' hk => ⟨fun hf => hk.1 ?_, mix_of_segs ns r _ _ w' (by omega) hm' hk.2⟩) h'
          simp only [finAt, Bool.and_eq_false_iff] at hf
          rcases hf with hf | hf
          · exact .inl hf
          · refine .inr (fun hr => ?_)
            subst hr
            simp at hf
            simp at hlr
            omega
        · rename_i hw
          rw [if_neg hw] at h'
          exact mix_of_segs ns r _ _ w (by omega) hm' h'
theorem fin_none {n : Nat} : FinOk md ops (finAt false n) := fun i j h => by simp [finAt] at h
/-- the last operation comes behind all others. -/
def lastB (ops : Array Oper) : Bool := (List.range ops.size).all fun i => decide (i + 1 = ops.size) || (reachL .any i ops.toList 0 #[]).getD (ops.size - 1) false
theorem fin_some (h : lastB ops = true) : FinOk .any ops (finAt true ops.size) := fun i j hj hi hij => by
  simp only [finAt, Bool.true_and, beq_iff_eq] at hj
  simp only [lastB, List.all_eq_true, List.mem_range, Bool.or_eq_true, decide_eq_true_eq] at h
  rcases h i hi with h1 | h1
  · omega
  · rw [show j = ops.size - 1 by omega]; exact h1
theorem wp_region_mix {id : Nat} {Q : Exit → Act → World → Prop} {a : Act} {w : World} {l : List Oper} (ns : List Nat) (hm : P.follows .mixedOrders = true) (hB : mixB l.toArray (mvOf ns) = true) (hC : C w.drew)
    (h : wpSegs P l.toArray C false (fun a' w' => Q .normal a' w') ns l a w.drew) : (Code.region id l.toArray true).wp P Q a w :=
  wp_region_mix0 (fin := finAt false l.length) fin_none (fun k h => by simp [finAt] at h) hm hB hC (mix_of_segs ns l 0 a w.drew (by simp) (by simp) h)
theorem wp_region_mixL {id : Nat} {Q : Exit → Act → World → Prop} {a : Act} {w : World} {l : List Oper} (ns : List Nat) (hm : P.follows .mixedOrders = true) (hB : (mixB l.toArray (mvOf ns) && lastB l.toArray) = true) (hC : C w.drew)
    (h : wpSegs P l.toArray C true (fun a' w' => Q .normal a' w') ns l a w.drew) : (Code.region id l.toArray true).wp P Q a w := by
  rw [Bool.and_eq_true] at hB
  exact wp_region_mix0 (fin := finAt true l.toArray.size) (fin_some hB.2) (fun k h => by simpa [finAt] using h) hm hB.1 hC (mix_of_segs ns l 0 a w.drew (by simp) (by simp) h)
/-- the moving operation, in the walk's own form. -/
theorem wpHead_want {last : Bool} {K : List Oper → Act → World → Prop} {m : Oper} {r : List Oper} {a : Act} {w : World} (hw : Region.wanted m (yielded ops a.tmps) = true)
    (h : ∀ K' : Act → World → Prop, (∀ a' w', a'.defers = a.defers → C w' → K r a' w' → K' a' w') → m.wp P a w K' (fun _ _ _ => False)) : wpHead P ops C last K (m :: r) a w := by
  simp only [wpHead]
  rw [if_pos hw]
  exact wpN_of_wp (h _ fun a' w' hd hc hk => ⟨hd, fun _ => hc, hk⟩)
/-- the last one: nothing is asked of the world behind it. -/
theorem wpHead_last {K : List Oper → Act → World → Prop} {m : Oper} {a : Act} {w : World} (hw : Region.wanted m (yielded ops a.tmps) = true)
    (h : ∀ K' : Act → World → Prop, (∀ a' w', a'.defers = a.defers → K [] a' w' → K' a' w') → m.wp P a w K' (fun _ _ _ => False)) : wpHead P ops C true K [m] a w := by
  simp only [wpHead]
  rw [if_pos hw]
  exact wpN_of_wp (h _ fun a' w' hd hk => ⟨hd, fun h => by rcases h with h | h <;> simp at h, hk⟩)
theorem wpHead_skip {last : Bool} {K : List Oper → Act → World → Prop} {m : Oper} {r : List Oper} {a : Act} {w : World} (hw : Region.wanted m (yielded ops a.tmps) = false)
    (h : K r (a.put m.dst undef) w) : wpHead P ops C last K (m :: r) a w := by
  simp only [wpHead]
  rw [if_neg (by rw [hw]; exact Bool.false_ne_true)]
  exact h
end

/-! ### The class: all worlds in which the blocks that were, but those in S, are as they were -/
def graft (S : Nat → Prop) [DecidablePred S] (w x : World) : World :=
  { heap := Array.ofFn (n := max w.heap.size x.heap.size) fun i => if h : i.1 < w.heap.size ∧ ¬ S i.1 then w.heap[i.1]'h.1 else x.heap.getD i.1 default
    tape := w.tape, drawn := x.drawn, os := w.os, output := w.output }
section
variable {S : Nat → Prop} [DecidablePred S] {w x : World}
theorem graft_fr (S : Nat → Prop) [DecidablePred S] (w x : World) : Fr S w (graft S w x) :=
  ⟨rfl, rfl, rfl, by simp [graft]; omega, fun k hk hs => by
    have hm : k < max w.heap.size x.heap.size := by omega
    simp [graft, hm, hk, hs]⟩
theorem fr_graft {w' : World} (h : Fr S w w') : ∃ x, w' = graft S w x := by
  refine ⟨w', ?_⟩
  cases w' with
  | mk heap tape drawn os output =>
    have h1 := h.os; have h2 := h.tape; have h3 := h.output; have h4 := h.size
    simp only at h1 h2 h3 h4
    subst h1 h2 h3
    simp only [graft, World.mk.injEq, and_true]
    have hmx : max w.heap.size heap.size = heap.size := by omega
    apply Array.ext
    · simp; omega
    · intro i hi1 hi2
      simp only [Array.getElem_ofFn]
      split
      · rename_i hc
        have := h.block i hc.1 hc.2
        simp only at this
        rw [Array.getElem?_eq_getElem hi1, Array.getElem?_eq_getElem hc.1] at this
        exact Option.some.inj this
      · simp
@[go_sem] theorem graft_cell {b o : Nat} {s : Option Nat} (hb : b < w.heap.size) (hs : ¬ S b) : (graft S w x).cell? ⟨b, o, s⟩ = w.cell? ⟨b, o, s⟩ := (graft_fr S w x).cell (p := ⟨b, o, s⟩) hb hs
end
/-- the region's walk, at the class of all worlds in which the blocks that were (but those in S) are as they were. -/
theorem wp_region_at {P : Program} {id : Nat} {Q : Exit → Act → World → Prop} {a : Act} {w : World} {l : List Oper} (S : Nat → Prop) [DecidablePred S] (ns : List Nat) (hm : P.follows .mixedOrders = true) (hB : mixB l.toArray (mvOf ns) = true)
    (h : wpSegs P l.toArray (fun w' => ∃ x, w' = graft S w x) false (fun a' w' => Q .normal a' w') ns l a w.drew) : (Code.region id l.toArray true).wp P Q a w :=
  wp_region_mix ns hm hB (fr_graft (Fr.drew (Fr.refl S w))) h
/-- likewise, where the last operation (a moving one: a store, say) comes behind all others: S need not hold what it changes. -/
theorem wp_region_last {P : Program} {id : Nat} {Q : Exit → Act → World → Prop} {a : Act} {w : World} {l : List Oper} (S : Nat → Prop) [DecidablePred S] (ns : List Nat) (hm : P.follows .mixedOrders = true) (hB : (mixB l.toArray (mvOf ns) && lastB l.toArray) = true)
    (h : wpSegs P l.toArray (fun w' => ∃ x, w' = graft S w x) true (fun a' w' => Q .normal a' w') ns l a w.drew) : (Code.region id l.toArray true).wp P Q a w :=
  wp_region_mixL ns hm hB (fr_graft (Fr.drew (Fr.refl S w))) h
end Go.Proofs.Ytiglabknaldinaa
