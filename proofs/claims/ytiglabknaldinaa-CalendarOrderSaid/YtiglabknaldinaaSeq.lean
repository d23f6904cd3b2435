/- A loop over an iterator, by ownership: the loop's body owns a set of blocks (T), changes no others, and takes new ones into it; the iterator changes no block of it. An iterator with cells of its own, and one whose body is itself a loop over an iterator, have this contract. Besides: a region that draws its order, within a round. -/
import Derived.Test.YtiglabknaldinaaMixC
import Derived.RangeFuncNested
import Derived.RangeFuncLeaves
import Derived.Shelf.Abstract
import Derived.OwnWalkIn
import Derived.TacticsInMore
import Derived.LoopNIn
import Derived.LoopIn
import Derived.Maps.OwnIn
namespace Go.Proofs.Ytiglabknaldinaa
open Go.RowKit Go.Shelf
/-- T' holds what T held, and new blocks. -/
def Grw (T T' : Nat → Prop) (w w' : World) : Prop := ∀ b, T' b → (T b ∨ w.heap.size ≤ b) ∧ b < w'.heap.size
/-- J hangs on the blocks in T, and on those in K, alone. -/
def Stab (K : Nat → Prop) (J : Nat → (Nat → Prop) → World → Prop) : Prop := ∀ k T W W', J k T W → Fr (fun b => ¬ T b ∧ ¬ K b) W W' → J k T W'
def Bnd (T : Nat → Prop) (W : World) : Prop := ∀ b, T b → b < W.heap.size
theorem Grw.bnd {T T' : Nat → Prop} {w w' : World} (h : Grw T T' w w') : Bnd T' w' := fun b hb => (h b hb).2
theorem Grw.refl {T : Nat → Prop} {w : World} (h : Bnd T w) : Grw T T w w := fun b hb => ⟨.inl hb, h b hb⟩
theorem Grw.trans {T T' T'' : Nat → Prop} {w w' w'' : World} (h : Grw T T' w w') (hs : w.heap.size ≤ w'.heap.size) (k : Grw T' T'' w' w'') : Grw T T'' w w'' := fun b hb => by
  obtain ⟨h1, h2⟩ := k b hb
  refine ⟨?_, h2⟩
  rcases h1 with h1 | h1
  · exact (h b h1).1
  · exact .inr (by omega)
/-- frames one behind the other, where the second's set has grown. -/
theorem Fr.grw {T T' : Nat → Prop} {w w' w'' : World} (h : Fr T w w') (hg : Grw T T' w w') (k : Fr T' w' w'') : Fr T w w'' :=
  h.trans' k fun b hb hT => (hg b hT).1.resolve_right (by omega)
theorem Fr.putObj {S : Nat → Prop} {w w' : World} (h : Fr S w w') {l : Nat} (hl : l < w.heap.size → S l) (o : Obj) : Fr S w (w'.putObj l o) :=
  h.grown (grownBy_putObj' w' l o) fun k hk e => by cases e; exact hl hk
/-- the iterator's contract (K: the blocks that it needs as they are): g's value, called with yield, yields enc 0, enc 1 .. enc (N - 1), where the body that owns T keeps to its own. -/
def SeqT (P : Program) (g : FuncId) (lb : Array Value) (enc : Nat → Array Value) (N : Nat) (K : Nat → Prop) (w : World) : Prop :=
  ∀ (l : Nat) (J Jx : Nat → (Nat → Prop) → World → Prop) (T : Nat → Prop) (W : World), Fr (fun b => ¬ K b) w W → Stab K J → Stab K Jx →
    (∀ b, T b → ¬ K b) → Bnd T W →
    (∀ k T W1, k < N → J k T W1 → Bnd T W1 → YieldAt Fence.wide 0 P l (enc k) W1 fun e W' => ∃ T', Fr T W1 W' ∧ Grw T T' W1 W' ∧ ((e = .returned (.bool true) ∧ J (k + 1) T' W') ∨ (e = .returned (.bool false) ∧ Jx (k + 1) T' W'))) →
    J 0 T W →
    Calls P g (#[.func (.yield l) #[] #[]] ++ lb) W fun e W' => (∃ v, e = .returned v) ∧ ∃ T', Fr T W W' ∧ Grw T T' W W' ∧ (J N T' W' ∨ ∃ k, k ≤ N ∧ Jx k T' W')
/-- how a round's body may be left. -/
def rndPost (I : Nat → (Nat → Prop) → World → Prop) (Ix : Code → Nat → (Nat → Prop) → World → Prop) (k : Nat) (T : Nat → Prop) (W : World) : Exit → Act → World → Prop
  | .normal, _, W' => ∃ T', Fr T W W' ∧ Grw T T' W W' ∧ I (k + 1) T' W'
  | .ret, _, W' => ∃ T', Fr T W W' ∧ Grw T T' W W' ∧ Ix .ret (k + 1) T' W'
  | .exit id, _, W' => ∃ T', Fr T W W' ∧ Grw T T' W W' ∧ Ix (.exit id) (k + 1) T' W'
  | .goto t, _, W' => ∃ T', Fr T W W' ∧ Grw T T' W W' ∧ Ix (.goto t) (k + 1) T' W'
  | .panic _, _, _ => False
  | .outgrown, _, _ => False
/-- the law's own set. -/
def With2 (T : Nat → Prop) (D L : Nat) (b : Nat) : Prop := T b ∨ b = D ∨ b = L
set_option maxHeartbeats 1000000 in
theorem wp_range {P : Program} {n : Nat} {g : Operand} {ps : Array Tmp} {assign body : Code} {Q : Exit → Act → World → Prop} {a : Act} {w : World}
    {gf : Nat} {lb : Array Value} (hg : a.eval g = .func (.func gf) #[] lb) (eg : ∀ args w, (callFunc gf args).run P w = .ok (.enter gf args) w)
    {enc : Nat → Array Value} {N : Nat} {w0 : World} {Kp : Nat → Prop} (hseq : SeqT P gf lb enc N Kp w0) (hKp : ∀ b, Kp b → b < w0.heap.size) (hb0 : Fr (fun b => ¬ Kp b) w0 w) (hps : ∀ k, (enc k).size = ps.size)
    (I : Nat → (Nat → Prop) → World → Prop) (Ix : Code → Nat → (Nat → Prop) → World → Prop) (hI : Stab Kp I) (hIx : ∀ c, Stab Kp (Ix c))
    (T : Nat → Prop) (hT0 : ∀ b, T b → ¬ Kp b) (hT : Bnd T w) (h0 : I 0 T w)
    (A : Nat → Act → (Nat → Prop) → World → Prop) (hA : ∀ a', Stab Kp (fun k T W => A k a' T W))
    (hassign : ∀ (l k : Nat) (T : Nat → Prop) (W : World) (K : Act → World → Prop), k < N → I k T W → Bnd T W → (∀ a' T' W', Fr T W W' → Grw T T' W W' → A k a' T' W' → K a' W') →
      assign.wpIn (Fence.wide.inRound l) 0 P (Exit.then K (fun _ _ _ => False)) { tmps := (ps.zip (enc k)).foldl (fun t (p, v) => t.setIfInBounds p v) a.tmps, defers := [] } W)
    (hbody : ∀ (l k : Nat) (a' : Act) (T : Nat → Prop) (W : World), k < N → A k a' T W → Bnd T W → body.wpIn (Fence.wide.inRound l) 0 P (rndPost I Ix k T W) a' W)
    (hdone : ∀ (D : Nat) (T' : Nat → Prop) (W : World), w.heap.size ≤ D → ¬ T' D → Fr T w W → Grw T T' w W → I N T' W → W.heap[D]? = some (.deferred (some [])) → Q .normal { a with defers := { target := .collected D, args := #[] } :: a.defers } W)
    (hstop : ∀ (D : Nat) (c : Code) (k : Nat) (T' : Nat → Prop) (W : World), k ≤ N → w.heap.size ≤ D → ¬ T' D → Fr T w W → Grw T T' w W → Ix c k T' W → W.heap[D]? = some (.deferred (some [])) → c.wpIn Fence.wide n P Q { a with defers := { target := .collected D, args := #[] } :: a.defers } W) :
    (Code.rangeFunc g ps assign body).wpIn Fence.wide n P Q a w := by
  refine wpIn_rangeFunc ?_
  intro fn hfn
  show ∃ _, _
  obtain ⟨rec, hrec⟩ : ∃ rec : LoopState → Option Code → Loop, rec = fun st pe => { state := st, pending := pe, fn, tmps := a.tmps, params := ps, assign, body, defers := w.heap.size } := ⟨_, rfl⟩
  obtain ⟨W1, hW1⟩ : ∃ W1, (w.alloc (.deferred (some []))).alloc (.loop (rec .ready none)) = W1 := ⟨_, rfl⟩
  have hL1 : W1.heap[w.heap.size + 1]? = some (.loop (rec .ready none)) := by
    rw [← hW1]; have := World.alloc_heap_new (w.alloc (.deferred (some []))) (.loop (rec .ready none)); rwa [World.size_alloc] at this
  have hK1 : W1.heap[w.heap.size]? = some (.deferred (some [])) := by
    rw [← hW1]; exact (Below.heap_alloc _ _ _ (by simp)).trans (World.alloc_heap_new w _)
  have hsz1 : W1.heap.size = w.heap.size + 2 := by rw [← hW1]; simp
  have hf1 : ∀ S, Fr S w W1 := fun S => by rw [← hW1]; exact ((Fr.refl S w).alloc _).alloc _
  have hb1 : Fr (fun b => ¬ Kp b) w0 W1 := hb0.trans (hf1 _)
  have hss := hb0.size
  have hkL : ¬ Kp (w.heap.size + 1) := fun h => by have := hKp _ h; omega
  refine ⟨w.heap.size + 1, [{ target := .collected w.heap.size, args := #[] }], W1, { target := .fn (.func gf) lb, args := #[.func (.yield (w.heap.size + 1)) #[] #[]] }, W1, gf,
    #[.func (.yield (w.heap.size + 1)) #[] #[]] ++ lb, W1, ?_, ?_, ?_, ?_, (fun h => by cases h), callsIn_wide.2 ?_⟩
  · rw [← hW1, hrec]; exact run_enterLoop_outer _ _ _ _ _
  · simp only [resolve, hg]
    simp [go_sem]
  · intro f' hf'; trivial
  · simp [invoke, go_sem, eg]
  refine (hseq (w.heap.size + 1)
      (fun k T W => ∃ T0, I k T0 W ∧ (∀ b, T b ↔ With2 T0 w.heap.size (w.heap.size + 1) b) ∧ ¬ T0 w.heap.size ∧ ¬ T0 (w.heap.size + 1) ∧ W.heap[w.heap.size + 1]? = some (.loop (rec .ready none)) ∧ W.heap[w.heap.size]? = some (.deferred (some [])))
      (fun k T W => ∃ c T0, Ix c k T0 W ∧ (∀ b, T b ↔ With2 T0 w.heap.size (w.heap.size + 1) b) ∧ ¬ T0 w.heap.size ∧ ¬ T0 (w.heap.size + 1) ∧ W.heap[w.heap.size + 1]? = some (.loop (rec .done (some c))) ∧ W.heap[w.heap.size]? = some (.deferred (some [])))
      (With2 T w.heap.size (w.heap.size + 1)) W1 hb1 ?_ ?_ ?_ ?_ ?_ ?_).mono ?_
  · rintro k T1 W W' ⟨T0, hi, hT1, hn1, hn2, hl, hk⟩ hf
    refine ⟨T0, hI _ _ _ _ hi (hf.mono fun b _ h => ⟨fun h' => h.1 ((hT1 b).2 (.inl h')), h.2⟩), hT1, hn1, hn2, ?_, ?_⟩
    · exact (hf.block _ (Array.getElem?_eq_some_iff.1 hl).1 (fun h => h.1 ((hT1 _).2 (.inr (.inr rfl))))).trans hl
    · exact (hf.block _ (Array.getElem?_eq_some_iff.1 hk).1 (fun h => h.1 ((hT1 _).2 (.inr (.inl rfl))))).trans hk
  · rintro k T1 W W' ⟨c, T0, hi, hT1, hn1, hn2, hl, hk⟩ hf
    refine ⟨c, T0, hIx _ _ _ _ _ hi (hf.mono fun b _ h => ⟨fun h' => h.1 ((hT1 b).2 (.inl h')), h.2⟩), hT1, hn1, hn2, ?_, ?_⟩
    · exact (hf.block _ (Array.getElem?_eq_some_iff.1 hl).1 (fun h => h.1 ((hT1 _).2 (.inr (.inr rfl))))).trans hl
    · exact (hf.block _ (Array.getElem?_eq_some_iff.1 hk).1 (fun h => h.1 ((hT1 _).2 (.inr (.inl rfl))))).trans hk
  · rintro b (h | rfl | rfl)
    · exact hT0 b h
    · exact fun h => by have := hKp _ h; omega
    · exact fun h => by have := hKp _ h; omega
  · rintro b (h | rfl | rfl)
    · have := hT b h; omega
    · omega
    · omega
  · -- one round
    rintro k T1 W hkN ⟨T0, hi, hT1, hn1, hn2, hl, hk⟩ hB1
    have hB0 : Bnd T0 W := fun b hb => hB1 b ((hT1 b).2 (.inl hb))
    have hlt : w.heap.size + 1 < W.heap.size := (Array.getElem?_eq_some_iff.1 hl).1
    have hy := run_yield (P := P) (args := enc k) hl (by rw [hrec]; exact hps k)
    rw [hrec] at hy
    refine ⟨fn, _, assign, body, hy, roundIn_of_wpIn hfn (hassign _ k T0 W _ hkN hi hB0 ?_)⟩
    clear hy
    intro a' Ta Wa hfa hga hax
    have hna1 : ¬ Ta w.heap.size := fun h => (hga _ h).1.elim hn1 (fun h => by omega)
    have hna2 : ¬ Ta (w.heap.size + 1) := fun h => (hga _ h).1.elim hn2 (fun h => by omega)
    have hla := (hfa.block _ (by omega) hn2).trans hl
    have hka := (hfa.block _ (by omega) hn1).trans hk
    have hlta : w.heap.size + 1 < Wa.heap.size := (Array.getElem?_eq_some_iff.1 hla).1
    refine ⟨_, run_beginRound hla (by rw [hrec]), ?_⟩
    obtain ⟨Wb, hWb⟩ : ∃ Wb, Wa.putObj (w.heap.size + 1) (.loop { rec .ready none with state := .busy }) = Wb := ⟨_, rfl⟩
    rw [hWb]
    have hlb : Wb.heap[w.heap.size + 1]? = some (.loop { rec .ready none with state := .busy }) := by rw [← hWb]; exact World.putObj_heap_same hlta
    have hkb : Wb.heap[w.heap.size]? = some (.deferred (some [])) := by rw [← hWb]; exact (World.putObj_heap_other (by omega)).trans hka
    have hszb : Wb.heap.size = Wa.heap.size := by rw [← hWb]; simp
    have hfb : ∀ S : Nat → Prop, S (w.heap.size + 1) → Fr S Wa Wb := fun S hS => by rw [← hWb]; exact (Fr.refl S Wa).putObj (fun _ => hS) _
    refine wpIn_mono (hbody _ k a' Ta Wb hkN (hA a' k Ta _ _ hax (hfb _ ⟨hna2, hkL⟩)) (fun b hb => by have := (hga b hb).2; omega)) ?_
    have fin : ∀ (jump : Option Code) (W3 : World) (T3 : Nat → Prop), Fr Ta Wb W3 → Grw Ta T3 Wb W3 →
        ∃ W4, (Instr.endRound (w.heap.size + 1) jump).run P W3 = .ok (.bool jump.isNone) W4 ∧ (∀ S : Nat → Prop, S (w.heap.size + 1) → Fr S W3 W4) ∧ W4.heap.size = W3.heap.size ∧ ¬ T3 w.heap.size ∧ ¬ T3 (w.heap.size + 1) ∧
          W4.heap[w.heap.size + 1]? = some (.loop (rec (if jump.isNone then .ready else .done) jump)) ∧ W4.heap[w.heap.size]? = some (.deferred (some [])) ∧
          Fr T1 W W4 ∧ Grw T1 (With2 T3 w.heap.size (w.heap.size + 1)) W W4 := fun jump W3 T3 hf3 hg3 => by
      have hn31 : ¬ T3 w.heap.size := fun h => (hg3 _ h).1.elim hna1 (fun h => by omega)
      have hn32 : ¬ T3 (w.heap.size + 1) := fun h => (hg3 _ h).1.elim hna2 (fun h => by omega)
      have hl3 := (hf3.block _ (by omega) hna2).trans hlb
      have hk3 := (hf3.block _ (by omega) hna1).trans hkb
      have hlt3 := (Array.getElem?_eq_some_iff.1 hl3).1
      have he := run_endRound (P := P) jump hl3
      have hfT : Fr T1 W W3 := ((hfa.mono fun b _ h => (hT1 b).2 (.inl h)).trans' (hfb T1 ((hT1 _).2 (.inr (.inr rfl)))) (fun _ _ h => h)).trans' hf3 (fun b hb h => by
        rcases (hga b h).1 with h' | h'
        · exact (hT1 b).2 (.inl h')
        · omega)
      refine ⟨_, by rw [hrec] at he ⊢; exact he, fun S hS => (Fr.refl S W3).putObj (fun _ => hS) _, by simp, hn31, hn32, World.putObj_heap_same hlt3, (World.putObj_heap_other (by omega)).trans hk3, ?_, ?_⟩
      · exact hfT.putObj (fun _ => (hT1 _).2 (.inr (.inr rfl))) _
      · have hs := hf3.size
        have hsa := hfa.size
        rintro b (h | rfl | rfl)
        · obtain ⟨h1, h2⟩ := hg3 b h
          refine ⟨?_, by simpa using h2⟩
          rcases h1 with h1 | h1
          · rcases (hga b h1).1 with h4 | h4
            · exact .inl ((hT1 b).2 (.inl h4))
            · exact .inr h4
          · exact .inr (by omega)
        · exact ⟨.inl ((hT1 _).2 (.inr (.inl rfl))), by simp; omega⟩
        · exact ⟨.inl ((hT1 _).2 (.inr (.inr rfl))), by simp; omega⟩
    rintro e a3 W3 hp
    cases e with
    | normal =>
      obtain ⟨T3, hf3, hg3, hi3⟩ := hp
      obtain ⟨W4, hr, hf4, hs4, hn31, hn32, hl4, hk4, hfT, hgT⟩ := fin none W3 T3 hf3 hg3
      exact ⟨_, _, hr, _, hfT, hgT, .inl ⟨rfl, T3, hI _ _ _ _ hi3 (hf4 _ ⟨hn32, hkL⟩), fun b => Iff.rfl, hn31, hn32, hl4, hk4⟩⟩
    | ret =>
      obtain ⟨T3, hf3, hg3, hi3⟩ := hp
      obtain ⟨W4, hr, hf4, hs4, hn31, hn32, hl4, hk4, hfT, hgT⟩ := fin (some .ret) W3 T3 hf3 hg3
      exact ⟨_, _, hr, _, hfT, hgT, .inr ⟨rfl, .ret, T3, hIx _ _ _ _ _ hi3 (hf4 _ ⟨hn32, hkL⟩), fun b => Iff.rfl, hn31, hn32, hl4, hk4⟩⟩
    | exit id =>
      obtain ⟨T3, hf3, hg3, hi3⟩ := hp
      obtain ⟨W4, hr, hf4, hs4, hn31, hn32, hl4, hk4, hfT, hgT⟩ := fin (some (.exit id)) W3 T3 hf3 hg3
      exact ⟨_, _, hr, _, hfT, hgT, .inr ⟨rfl, .exit id, T3, hIx _ _ _ _ _ hi3 (hf4 _ ⟨hn32, hkL⟩), fun b => Iff.rfl, hn31, hn32, hl4, hk4⟩⟩
    | goto t =>
      obtain ⟨T3, hf3, hg3, hi3⟩ := hp
      obtain ⟨W4, hr, hf4, hs4, hn31, hn32, hl4, hk4, hfT, hgT⟩ := fin (some (.goto t)) W3 T3 hf3 hg3
      exact ⟨_, _, hr, _, hfT, hgT, .inr ⟨rfl, .goto t, T3, hIx _ _ _ _ _ hi3 (hf4 _ ⟨hn32, hkL⟩), fun b => Iff.rfl, hn31, hn32, hl4, hk4⟩⟩
    | panic ch => exact hp.elim
    | outgrown => exact hp.elim
  · have hT1 : ¬ T w.heap.size := fun h => by have := hT _ h; omega
    have hT2 : ¬ T (w.heap.size + 1) := fun h => by have := hT _ h; omega
    exact ⟨T, hI _ _ _ _ h0 (hf1 _), fun b => Iff.rfl, hT1, hT2, hL1, hK1⟩
  · -- behind the iterator
    have back : ∀ (Te T0 : Nat → Prop) (W2 : World), Fr (With2 T w.heap.size (w.heap.size + 1)) W1 W2 → Grw (With2 T w.heap.size (w.heap.size + 1)) Te W1 W2 → (∀ b, Te b ↔ With2 T0 w.heap.size (w.heap.size + 1) b) → ¬ T0 w.heap.size → ¬ T0 (w.heap.size + 1) → ∀ o, Fr T w (W2.putObj (w.heap.size + 1) o) ∧ Grw T T0 w (W2.putObj (w.heap.size + 1) o) := fun Te T0 W2 hf hg hTe hn1 hn2 o => by
      constructor
      · refine Fr.putObj (((hf1 T)).trans' hf (fun b hb h => ?_)) (fun h => by omega) o
        rcases h with h | rfl | rfl
        · exact h
        · omega
        · omega
      · intro b hb
        obtain ⟨h1, h2⟩ := hg b ((hTe b).2 (.inl hb))
        refine ⟨?_, by simpa using h2⟩
        rcases h1 with (h1 | rfl | rfl) | h1
        · exact .inl h1
        · exact absurd hb hn1
        · exact absurd hb hn2
        · exact .inr (by omega)
    rintro e W2 ⟨⟨v, rfl⟩, Te, hf, hg, (⟨T0, hi, hTe, hn1, hn2, hl, hk⟩ | ⟨k, hkN, c, T0, hi, hTe, hn1, hn2, hl, hk⟩)⟩
    · obtain ⟨h1, h2⟩ := back Te T0 W2 hf hg hTe hn1 hn2 (.loop { rec .ready none with state := .exhausted })
      have he := run_endLoop (P := P) hl (by rw [hrec]; simp)
      refine ⟨none, _, by rw [hrec] at he; exact he, ?_⟩
      exact hdone _ T0 _ (Nat.le_refl _) hn1 (by rw [hrec] at h1; exact h1) (by rw [hrec] at h2; exact h2) (hI _ _ _ _ hi ((Fr.refl _ W2).putObj (fun _ => ⟨hn2, hkL⟩) _)) ((World.putObj_heap_other (by omega)).trans hk)
    · obtain ⟨h1, h2⟩ := back Te T0 W2 hf hg hTe hn1 hn2 (.loop { rec .done (some c) with state := .exhausted })
      have he := run_endLoop (P := P) hl (by rw [hrec]; simp)
      refine ⟨some c, _, by rw [hrec] at he; exact he, ?_⟩
      exact hstop _ c k T0 _ hkN (Nat.le_refl _) hn1 (by rw [hrec] at h1; exact h1) (by rw [hrec] at h2; exact h2) (hIx _ _ _ _ _ hi ((Fr.refl _ W2).putObj (fun _ => ⟨hn2, hkL⟩) _)) ((World.putObj_heap_other (by omega)).trans hk)
/-! ### A region that draws its order, within a round -/
section
variable {P : Program} {n : Nat}
theorem op_round {r : Nat} {o : Oper} {a : Act} {w : World} {K : Act → World → Prop} {Q : Exit → Act → World → Prop} (hd : ∀ c, o.op ≠ .defer c) (h : o.wp P a w K Q) : o.wpIn (Fence.wide.inRound r) n P a w K Q := by
  refine ⟨fun _ _ => trivial, ?_⟩
  rw [show (Fence.wide.inRound r).round = some r from rfl, Oper.semAt_some _ _ _ hd]
  unfold Oper.wp at h
  generalize (execOp a.eval o).run P w = res at h
  cases res with
  | ok x w' =>
    cases x with
    | value v => exact h
    | skip => exact h
    | defer d => exact h
    | enter f args => exact ⟨fun h => (by cases h), CallsIn.inRound r (callsIn_wide.2 h)⟩
    | row row args =>
      refine ⟨fun h => (by cases h), fun c cs _ => ?_⟩
      obtain ⟨v, w'', hr, hs⟩ := h c cs
      exact ⟨v, w'', hr, by rw [fenced_inRound]; exact stepsIn_wide.2 hs⟩
    | _ => exact h.elim
  | halt x w' => cases x <;> exact h
def noDefer (ops : Array Oper) : Bool := ops.toList.all fun o => match o.op with | .defer _ => false | _ => true
theorem noDefer_spec {ops : Array Oper} (h : noDefer ops = true) {i : Nat} {o : Oper} (ho : ops[i]? = some o) : ∀ c, o.op ≠ .defer c := fun c e => by
  simp only [noDefer, List.all_eq_true] at h
  have := h o (by rw [← Array.getElem?_toList] at ho; exact List.mem_of_getElem? ho)
  rw [e] at this
  cases this
theorem any_round {ops : Array Oper} {md : Region.Mode} {r : Nat} {Q : Exit → Act → World → Prop} (hd : noDefer ops = true) (hQ : ∀ a w, ¬ Q .outgrown a w) : ∀ (fuel : Nat) (listed : Array Bool) (a : Act) (w : World),
    wpAny P md ops Q fuel listed a w → wpAnyIn (Fence.wide.inRound r) n P md ops Q fuel listed a w
  | 0, _, _, _, h => h
  | fuel + 1, listed, a, w, h => ⟨h.1, fun i hi => by
    have h1 := h.2 i hi
    unfold wpOp at h1
    unfold wpOpIn
    split
    · rename_i ho; simp only [ho] at h1; exact any_round hd hQ fuel _ _ _ h1
    · rename_i o ho
      simp only [ho] at h1
      split
      · rename_i hw
        rw [if_pos hw] at h1
        rcases h1 with h1 | ⟨_, a', w', h2⟩
        · exact op_round (noDefer_spec hd ho) (Oper.wp_mono (fun a w h => any_round hd hQ fuel _ a w h) h1)
        · exact absurd h2 (hQ a' w')
      · rename_i hw
        rw [if_neg hw] at h1
        exact ⟨fun _ _ => trivial, any_round hd hQ fuel _ _ _ h1⟩⟩
theorem wpIn_region_fen {id r : Nat} {Q : Exit → Act → World → Prop} {a : Act} {w : World} {l : List Oper} (S : Nat → Prop) [DecidablePred S] (ns : List (Nat × Nat)) (hm : P.follows .mixedOrders = true) (hB : (mixB2 l.toArray (mvOf (ns.map Prod.fst)) && fenB l.toArray (kindOf ns)) = true) (hd : noDefer l.toArray = true) (hQ : ∀ a w, ¬ Q .outgrown a w)
    (h : wpSegsF P l.toArray (fun a' w' => Q .normal a' w') ns (fun w' => ∃ x, w' = graft S w x) l a w.drew) : (Code.region id l.toArray true).wpIn (Fence.wide.inRound r) n P Q a w := by
  rw [Bool.and_eq_true] at hB
  obtain ⟨hB, hF⟩ := hB
  simp only [mixB2, Bool.and_eq_true, List.all_eq_true, List.mem_range] at hB
  obtain ⟨⟨h1, h2⟩, h3⟩ := hB
  have hcalm : ∀ j o, l.toArray[j]? = some o → mvOf (ns.map Prod.fst) j = false → calm2 o = true := fun j o ho hmj => by
    have := h2 j (Array.getElem?_eq_some_iff.1 ho).1
    simpa [hmj, ho] using this
  refine wpIn_region_any hm (any_round hd hQ _ _ _ _ (wpAny_of_F (bar := kindOf ns) hcalm (Q := fun a' w' => Q .normal a' w') (fun _ _ h => h) _ (fun w' => ∃ x, w' = graft S w x) _ _ _ (fr_graft (Fr.drew (Fr.refl S w))) ?_))
  have := anyF_lex (md := .any) (fenB_ok hF) h1 hcalm l 0 (fun w' => ∃ x, w' = graft S w x) (Array.replicate l.length false) a w.drew (by simp) (by simpa using h3)
    (fun j o _ hj => by
      exfalso
      by_cases hjs : j < l.length
      · simp [hjs] at hj
      · simp [hjs] at hj) (fun j hj => by omega) (fr_graft (Fr.drew (Fr.refl S w))) (mixF_of_segs ns _ l 0 a w.drew (by simp) (by simp) h)
  simpa using this
end
/-- append(out, x1 .. xm) within a round: the new elements lie in a new block of their own; out is owned. -/
theorem wpListIn_app {F : Fence} {nF : Nat} {P : Program} {ops : Array Oper} {rest : List Oper} {o : Oper} {a : Act} {Q : Exit → Act → World → Prop} (w : World) (hgd : o.guard = none) (s x : Operand) (t : TypeId)
    (ho : o.op = .call { callee := .builtin .append, args := #[s, x], argTypes := #[t, t] })
    (base : Nat) (e : TypeId) (i : TypeInfo) (z : Value) (size bytes m : Nat) (ht : P.underlying t = some (.slice e)) (hi : P.info? e = some i) (hz : i.zero = some z)
    (hsize : i.size = size) (hby : i.bytes = bytes) (hzs : z.cells.size = size) (hsz : 0 < size) (hb8 : bytes ≤ 1000000)
    (v : Value) (n : Nat) (xs : List Value) (hs : a.eval s = v) (hown : w.ownsRow base e size v n xs) (cs : Array Value) (hcs : cs.size = m * size) (h1 : ∀ u ∈ cs.toList, u.oneCell' = true)
    (hx : a.eval x = .slice (some ⟨w.heap.size, 0, none⟩) m m) (hn : n + m ≤ 1000001) (hbase : base ≤ w.heap.size)
    (h : ∀ v' w', w'.ownsRow base e size v' (n + m) (xs ++ cs.toList) → Fr (fun k => v.ownBlock = some k) w w' → (v'.ownBlock = v.ownBlock ∨ ∃ g, v'.ownBlock = some g ∧ w.heap.size ≤ g) → wpListIn F nF P ops Q rest (a.put o.dst v') w') :
    wpListIn F nF P ops Q (o :: rest) a (w.alloc (.cells cs e)) := by
  have hbytes : (n + m) * bytes ≤ 140737488355328 := Nat.le_trans (Nat.mul_le_mul hn hb8) (by decide)
  refine wpListIn_append_own_at (w := w.alloc (.cells cs e)) hgd s x t ho base e i z size bytes ht hi hz hsize hby hzs hsz v n xs hs (hown.alloc _) ⟨w.heap.size, 0, none⟩ m m cs.toList hx (by simpa using hcs) ?_ h1 (by unfold maxLen; omega) hbytes (by simp; omega) ?_
  · intro j u hu
    have hadd : (⟨w.heap.size, 0, none⟩ : Addr).add j = ⟨w.heap.size, j, none⟩ := by rw [add_none, Nat.zero_add]
    rw [hadd, cell_of_row _ _ j cs e (0, 0) (heap_alloc_new w _)]
    simpa using hu
  · intro v' w' h2 h3 _ h5
    refine h v' w' h2 ?_ ?_
    · exact ((Fr.refl _ w).alloc _).grown h3 (fun k _ hk => hk)
    · rcases h5 with h5 | h5
      · exact .inl h5
      · exact .inr ⟨_, h5, by simp⟩
end Go.Proofs.Ytiglabknaldinaa
