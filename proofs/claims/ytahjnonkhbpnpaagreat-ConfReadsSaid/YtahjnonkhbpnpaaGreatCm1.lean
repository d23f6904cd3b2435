/- Words and walks for the claims of this seat, merged: Seq, VarSpec, VarWalks, More, CwBase, Law, Gen, Cfg. -/
import Derived.RangeFuncNested
import Derived.RangeFuncLeaves
import Derived.Shelf.Abstract
import Derived.OwnWalkIn
import Derived.TacticsInMore
import Derived.LoopNIn
import Derived.LoopIn
import Derived.Maps.OwnIn
import Derived.Lib.SliceRun
import Derived.Test.YtahjnonkhbpnpaaGreatProg
import Derived.Deep.DeepCutAuto
import Derived.Outline
import Derived.Test.YtahjnonkhbpnpaaGreatRows
import Derived.ProofKit
import Derived.OpenShut
import Derived.ShutString
import Derived.ChangeOld
import Derived.Lib.SmallJoins
import Derived.Deep.Slices
import Derived.Test.YtahjnonkhbpnpaaGreatChecked
import Derived.Test.YtahjnonkhbpnpaaGreatCm0
/- A loop over an iterator, by ownership: the loop's body owns a set of blocks (T), changes no others, and takes new ones into it; the iterator changes no block of it. An iterator with cells of its own, and one whose body is itself a loop over an iterator, have this contract. Besides: a region that draws its order, within a round. -/
namespace Go.Proofs.YtahjnonkhbpnpaaGreat
open Go.RowKit Go.Shelf
/-- T' holds what T held, and new blocks. -/
def Grw (T T' : Nat → Prop) (w w' : World) : Prop := ∀ b, T' b → (T b ∨ w.heap.size ≤ b) ∧ b < w'.heap.size
/-- J hangs on the blocks in T, and on those in K, alone. -/
def Stab (K : Nat → Prop) (J : Nat → (Nat → Prop) → World → Prop) : Prop := ∀ k T W W', J k T W → Fr (fun b => ¬ T b ∧ ¬ K b) W W' → J k T W'
def Bnd (T : Nat → Prop) (W : World) : Prop := ∀ b, T b → b < W.heap.size
theorem Grw.bnd {T T' : Nat → Prop} {w w' : World} (h : Grw T T' w w') : Bnd T' w' := fun b hb => (h b hb).2
theorem Grw.refl {T : Nat → Prop} {w : World} (h : Bnd T w) : Grw T T w w := fun b hb => ⟨.inl hb, h b hb⟩
theorem Grw.trans {T T' T'' : Nat → Prop} {w w' w'' : World} (h : Grw T T' w w') (hs : w.heap.size ≤ w'.heap.size) (k : Grw T' T'' w' w'') : Grw T T'' w w'' := fun b hb => by
  obtain ⟨h1, h2⟩ := k b hb
  refine ⟨?_, h2⟩
  rcases h1 with h1 | h1
  · exact (h b h1).1
  · exact .inr (by omega)
/-- frames one behind the other, where the second's set has grown. -/
theorem Fr.grw {T T' : Nat → Prop} {w w' w'' : World} (h : Fr T w w') (hg : Grw T T' w w') (k : Fr T' w' w'') : Fr T w w'' :=
  h.trans' k fun b hb hT => (hg b hT).1.resolve_right (by omega)
theorem Fr.putObj {S : Nat → Prop} {w w' : World} (h : Fr S w w') {l : Nat} (hl : l < w.heap.size → S l) (o : Obj) : Fr S w (w'.putObj l o) :=
  h.grown (grownBy_putObj' w' l o) fun k hk e => by cases e; exact hl hk
/-- the iterator's contract (K: the blocks that it needs as they are): g's value, called with yield, yields enc 0, enc 1 .. enc (N - 1), where the body that owns T keeps to its own. -/
def SeqT (P : Program) (g : FuncId) (lb : Array Value) (enc : Nat → Array Value) (N : Nat) (K : Nat → Prop) (w : World) : Prop :=
  ∀ (l : Nat) (J Jx : Nat → (Nat → Prop) → World → Prop) (T : Nat → Prop) (W : World), Fr (fun b => ¬ K b) w W → Stab K J → Stab K Jx →
    (∀ b, T b → ¬ K b) → Bnd T W →
    (∀ k T W1, k < N → J k T W1 → Bnd T W1 → YieldAt Fence.wide 0 P l (enc k) W1 fun e W' => ∃ T', Fr T W1 W' ∧ Grw T T' W1 W' ∧ ((e = .returned (.bool true) ∧ J (k + 1) T' W') ∨ (e = .returned (.bool false) ∧ Jx (k + 1) T' W'))) →
    J 0 T W →
    Calls P g (#[.func (.yield l) #[] #[]] ++ lb) W fun e W' => (∃ v, e = .returned v) ∧ ∃ T', Fr T W W' ∧ Grw T T' W W' ∧ (J N T' W' ∨ ∃ k, k ≤ N ∧ Jx k T' W')
/-- how a round's body may be left. -/
def rndPost (I : Nat → (Nat → Prop) → World → Prop) (Ix : Code → Nat → (Nat → Prop) → World → Prop) (k : Nat) (T : Nat → Prop) (W : World) : Exit → Act → World → Prop
  | .normal, _, W' => ∃ T', Fr T W W' ∧ Grw T T' W W' ∧ I (k + 1) T' W'
  | .ret, _, W' => ∃ T', Fr T W W' ∧ Grw T T' W W' ∧ Ix .ret (k + 1) T' W'
  | .exit id, _, W' => ∃ T', Fr T W W' ∧ Grw T T' W W' ∧ Ix (.exit id) (k + 1) T' W'
  | .goto t, _, W' => ∃ T', Fr T W W' ∧ Grw T T' W W' ∧ Ix (.goto t) (k + 1) T' W'
  | .panic _, _, _ => False
  | .outgrown, _, _ => False
/-- the law's own set. -/
def With2 (T : Nat → Prop) (D L : Nat) (b : Nat) : Prop := T b ∨ b = D ∨ b = L
set_option maxHeartbeats 1000000 in
theorem wp_range {P : Program} {n : Nat} {g : Operand} {ps : Array Tmp} {assign body : Code} {Q : Exit → Act → World → Prop} {a : Act} {w : World}
    {gf : Nat} {lb : Array Value} (hg : a.eval g = .func (.func gf) #[] lb) (eg : ∀ args w, (callFunc gf args).run P w = .ok (.enter gf args) w)
    {enc : Nat → Array Value} {N : Nat} {w0 : World} {Kp : Nat → Prop} (hseq : SeqT P gf lb enc N Kp w0) (hKp : ∀ b, Kp b → b < w0.heap.size) (hb0 : Fr (fun b => ¬ Kp b) w0 w) (hps : ∀ k, (enc k).size = ps.size)
    (I : Nat → (Nat → Prop) → World → Prop) (Ix : Code → Nat → (Nat → Prop) → World → Prop) (hI : Stab Kp I) (hIx : ∀ c, Stab Kp (Ix c))
    (T : Nat → Prop) (hT0 : ∀ b, T b → ¬ Kp b) (hT : Bnd T w) (h0 : I 0 T w)
    (A : Nat → Act → (Nat → Prop) → World → Prop) (hA : ∀ a', Stab Kp (fun k T W => A k a' T W))
    (hassign : ∀ (l k : Nat) (T : Nat → Prop) (W : World) (K : Act → World → Prop), k < N → I k T W → Bnd T W → (∀ a' T' W', Fr T W W' → Grw T T' W W' → A k a' T' W' → K a' W') →
      assign.wpIn (Fence.wide.inRound l) 0 P (Exit.then K (fun _ _ _ => False)) { tmps := (ps.zip (enc k)).foldl (fun t (p, v) => t.setIfInBounds p v) a.tmps, defers := [] } W)
    (hbody : ∀ (l k : Nat) (a' : Act) (T : Nat → Prop) (W : World), k < N → A k a' T W → Bnd T W → body.wpIn (Fence.wide.inRound l) 0 P (rndPost I Ix k T W) a' W)
    (hdone : ∀ (D : Nat) (T' : Nat → Prop) (W : World), w.heap.size ≤ D → ¬ T' D → Fr T w W → Grw T T' w W → I N T' W → W.heap[D]? = some (.deferred (some [])) → Q .normal { a with defers := { target := .collected D, args := #[] } :: a.defers } W)
    (hstop : ∀ (D : Nat) (c : Code) (k : Nat) (T' : Nat → Prop) (W : World), k ≤ N → w.heap.size ≤ D → ¬ T' D → Fr T w W → Grw T T' w W → Ix c k T' W → W.heap[D]? = some (.deferred (some [])) → c.wpIn Fence.wide n P Q { a with defers := { target := .collected D, args := #[] } :: a.defers } W) :
    (Code.rangeFunc g ps assign body).wpIn Fence.wide n P Q a w := by
  refine wpIn_rangeFunc ?_
  intro fn hfn
  show ∃ _, _
  obtain ⟨rec, hrec⟩ : ∃ rec : LoopState → Option Code → Loop, rec = fun st pe => { state := st, pending := pe, fn, tmps := a.tmps, params := ps, assign, body, defers := w.heap.size } := ⟨_, rfl⟩
  obtain ⟨W1, hW1⟩ : ∃ W1, (w.alloc (.deferred (some []))).alloc (.loop (rec .ready none)) = W1 := ⟨_, rfl⟩
  have hL1 : W1.heap[w.heap.size + 1]? = some (.loop (rec .ready none)) := by
    rw [← hW1]; have := World.alloc_heap_new (w.alloc (.deferred (some []))) (.loop (rec .ready none)); rwa [World.size_alloc] at this
  have hK1 : W1.heap[w.heap.size]? = some (.deferred (some [])) := by
    rw [← hW1]; exact (Below.heap_alloc _ _ _ (by simp)).trans (World.alloc_heap_new w _)
  have hsz1 : W1.heap.size = w.heap.size + 2 := by rw [← hW1]; simp
  have hf1 : ∀ S, Fr S w W1 := fun S => by rw [← hW1]; exact ((Fr.refl S w).alloc _).alloc _
  have hb1 : Fr (fun b => ¬ Kp b) w0 W1 := hb0.trans (hf1 _)
  have hss := hb0.size
  have hkL : ¬ Kp (w.heap.size + 1) := fun h => by have := hKp _ h; omega
  refine ⟨w.heap.size + 1, [{ target := .collected w.heap.size, args := #[] }], W1, { target := .fn (.func gf) lb, args := #[.func (.yield (w.heap.size + 1)) #[] #[]] }, W1, gf,
    #[.func (.yield (w.heap.size + 1)) #[] #[]] ++ lb, W1, ?_, ?_, ?_, ?_, (fun h => by cases h), callsIn_wide.2 ?_⟩
  · rw [← hW1, hrec]; exact run_enterLoop_outer _ _ _ _ _
  · simp only [resolve, hg]
    simp [go_sem]
  · intro f' hf'; trivial
  · simp [invoke, go_sem, eg]
  refine (hseq (w.heap.size + 1)
      (fun k T W => ∃ T0, I k T0 W ∧ (∀ b, T b ↔ With2 T0 w.heap.size (w.heap.size + 1) b) ∧ ¬ T0 w.heap.size ∧ ¬ T0 (w.heap.size + 1) ∧ W.heap[w.heap.size + 1]? = some (.loop (rec .ready none)) ∧ W.heap[w.heap.size]? = some (.deferred (some [])))
      (fun k T W => ∃ c T0, Ix c k T0 W ∧ (∀ b, T b ↔ With2 T0 w.heap.size (w.heap.size + 1) b) ∧ ¬ T0 w.heap.size ∧ ¬ T0 (w.heap.size + 1) ∧ W.heap[w.heap.size + 1]? = some (.loop (rec .done (some c))) ∧ W.heap[w.heap.size]? = some (.deferred (some [])))
      (With2 T w.heap.size (w.heap.size + 1)) W1 hb1 ?_ ?_ ?_ ?_ ?_ ?_).mono ?_
  · rintro k T1 W W' ⟨T0, hi, hT1, hn1, hn2, hl, hk⟩ hf
    refine ⟨T0, hI _ _ _ _ hi (hf.mono fun b _ h => ⟨fun h' => h.1 ((hT1 b).2 (.inl h')), h.2⟩), hT1, hn1, hn2, ?_, ?_⟩
    · exact (hf.block _ (Array.getElem?_eq_some_iff.1 hl).1 (fun h => h.1 ((hT1 _).2 (.inr (.inr rfl))))).trans hl
    · exact (hf.block _ (Array.getElem?_eq_some_iff.1 hk).1 (fun h => h.1 ((hT1 _).2 (.inr (.inl rfl))))).trans hk
  · rintro k T1 W W' ⟨c, T0, hi, hT1, hn1, hn2, hl, hk⟩ hf
    refine ⟨c, T0, hIx _ _ _ _ _ hi (hf.mono fun b _ h => ⟨fun h' => h.1 ((hT1 b).2 (.inl h')), h.2⟩), hT1, hn1, hn2, ?_, ?_⟩
    · exact (hf.block _ (Array.getElem?_eq_some_iff.1 hl).1 (fun h => h.1 ((hT1 _).2 (.inr (.inr rfl))))).trans hl
    · exact (hf.block _ (Array.getElem?_eq_some_iff.1 hk).1 (fun h => h.1 ((hT1 _).2 (.inr (.inl rfl))))).trans hk
  · rintro b (h | rfl | rfl)
    · exact hT0 b h
    · exact fun h => by have := hKp _ h; omega
    · exact fun h => by have := hKp _ h; omega
  · rintro b (h | rfl | rfl)
    · have := hT b h; omega
    · omega
    · omega
  · -- one round
    rintro k T1 W hkN ⟨T0, hi, hT1, hn1, hn2, hl, hk⟩ hB1
    have hB0 : Bnd T0 W := fun b hb => hB1 b ((hT1 b).2 (.inl hb))
    have hlt : w.heap.size + 1 < W.heap.size := (Array.getElem?_eq_some_iff.1 hl).1
    have hy := run_yield (P := P) (args := enc k) hl (by rw [hrec]; exact hps k)
    rw [hrec] at hy
    refine ⟨fn, _, assign, body, hy, roundIn_of_wpIn hfn (hassign _ k T0 W _ hkN hi hB0 ?_)⟩
    clear hy
    intro a' Ta Wa hfa hga hax
    have hna1 : ¬ Ta w.heap.size := fun h => (hga _ h).1.elim hn1 (fun h => by omega)
    have hna2 : ¬ Ta (w.heap.size + 1) := fun h => (hga _ h).1.elim hn2 (fun h => by omega)
    have hla := (hfa.block _ (by omega) hn2).trans hl
    have hka := (hfa.block _ (by omega) hn1).trans hk
    have hlta : w.heap.size + 1 < Wa.heap.size := (Array.getElem?_eq_some_iff.1 hla).1
    refine ⟨_, run_beginRound hla (by rw [hrec]), ?_⟩
    obtain ⟨Wb, hWb⟩ : ∃ Wb, Wa.putObj (w.heap.size + 1) (.loop { rec .ready none with state := .busy }) = Wb := ⟨_, rfl⟩
    rw [hWb]
    have hlb : Wb.heap[w.heap.size + 1]? = some (.loop { rec .ready none with state := .busy }) := by rw [← hWb]; exact World.putObj_heap_same hlta
    have hkb : Wb.heap[w.heap.size]? = some (.deferred (some [])) := by rw [← hWb]; exact (World.putObj_heap_other (by omega)).trans hka
    have hszb : Wb.heap.size = Wa.heap.size := by rw [← hWb]; simp
    have hfb : ∀ S : Nat → Prop, S (w.heap.size + 1) → Fr S Wa Wb := fun S hS => by rw [← hWb]; exact (Fr.refl S Wa).putObj (fun _ => hS) _
    refine wpIn_mono (hbody _ k a' Ta Wb hkN (hA a' k Ta _ _ hax (hfb _ ⟨hna2, hkL⟩)) (fun b hb => by have := (hga b hb).2; omega)) ?_
    have fin : ∀ (jump : Option Code) (W3 : World) (T3 : Nat → Prop), Fr Ta Wb W3 → Grw Ta T3 Wb W3 →
        ∃ W4, (Instr.endRound (w.heap.size + 1) jump).run P W3 = .ok (.bool jump.isNone) W4 ∧ (∀ S : Nat → Prop, S (w.heap.size + 1) → Fr S W3 W4) ∧ W4.heap.size = W3.heap.size ∧ ¬ T3 w.heap.size ∧ ¬ T3 (w.heap.size + 1) ∧
          W4.heap[w.heap.size + 1]? = some (.loop (rec (if jump.isNone then .ready else .done) jump)) ∧ W4.heap[w.heap.size]? = some (.deferred (some [])) ∧
          Fr T1 W W4 ∧ Grw T1 (With2 T3 w.heap.size (w.heap.size + 1)) W W4 := fun jump W3 T3 hf3 hg3 => by
      have hn31 : ¬ T3 w.heap.size := fun h => (hg3 _ h).1.elim hna1 (fun h => by omega)
      have hn32 : ¬ T3 (w.heap.size + 1) := fun h => (hg3 _ h).1.elim hna2 (fun h => by omega)
      have hl3 := (hf3.block _ (by omega) hna2).trans hlb
      have hk3 := (hf3.block _ (by omega) hna1).trans hkb
      have hlt3 := (Array.getElem?_eq_some_iff.1 hl3).1
      have he := run_endRound (P := P) jump hl3
      have hfT : Fr T1 W W3 := ((hfa.mono fun b _ h => (hT1 b).2 (.inl h)).trans' (hfb T1 ((hT1 _).2 (.inr (.inr rfl)))) (fun _ _ h => h)).trans' hf3 (fun b hb h => by
        rcases (hga b h).1 with h' | h'
        · exact (hT1 b).2 (.inl h')
        · omega)
      refine ⟨_, by rw [hrec] at he ⊢; exact he, fun S hS => (Fr.refl S W3).putObj (fun _ => hS) _, by simp, hn31, hn32, World.putObj_heap_same hlt3, (World.putObj_heap_other (by omega)).trans hk3, ?_, ?_⟩
      · exact hfT.putObj (fun _ => (hT1 _).2 (.inr (.inr rfl))) _
      · have hs := hf3.size
        have hsa := hfa.size
        rintro b (h | rfl | rfl)
        · obtain ⟨h1, h2⟩ := hg3 b h
          refine ⟨?_, by simpa using h2⟩
          rcases h1 with h1 | h1
          · rcases (hga b h1).1 with h4 | h4
            · exact .inl ((hT1 b).2 (.inl h4))
            · exact .inr h4
          · exact .inr (by omega)
        · exact ⟨.inl ((hT1 _).2 (.inr (.inl rfl))), by simp; omega⟩
        · exact ⟨.inl ((hT1 _).2 (.inr (.inr rfl))), by simp; omega⟩
    rintro e a3 W3 hp
    cases e with
    | normal =>
      obtain ⟨T3, hf3, hg3, hi3⟩ := hp
      obtain ⟨W4, hr, hf4, hs4, hn31, hn32, hl4, hk4, hfT, hgT⟩ := fin none W3 T3 hf3 hg3
      exact ⟨_, _, hr, _, hfT, hgT, .inl ⟨rfl, T3, hI _ _ _ _ hi3 (hf4 _ ⟨hn32, hkL⟩), fun b => Iff.rfl, hn31, hn32, hl4, hk4⟩⟩
    | ret =>
      obtain ⟨T3, hf3, hg3, hi3⟩ := hp
      obtain ⟨W4, hr, hf4, hs4, hn31, hn32, hl4, hk4, hfT, hgT⟩ := fin (some .ret) W3 T3 hf3 hg3
      exact ⟨_, _, hr, _, hfT, hgT, .inr ⟨rfl, .ret, T3, hIx _ _ _ _ _ hi3 (hf4 _ ⟨hn32, hkL⟩), fun b => Iff.rfl, hn31, hn32, hl4, hk4⟩⟩
    | exit id =>
      obtain ⟨T3, hf3, hg3, hi3⟩ := hp
      obtain ⟨W4, hr, hf4, hs4, hn31, hn32, hl4, hk4, hfT, hgT⟩ := fin (some (.exit id)) W3 T3 hf3 hg3
      exact ⟨_, _, hr, _, hfT, hgT, .inr ⟨rfl, .exit id, T3, hIx _ _ _ _ _ hi3 (hf4 _ ⟨hn32, hkL⟩), fun b => Iff.rfl, hn31, hn32, hl4, hk4⟩⟩
    | goto t =>
      obtain ⟨T3, hf3, hg3, hi3⟩ := hp
      obtain ⟨W4, hr, hf4, hs4, hn31, hn32, hl4, hk4, hfT, hgT⟩ := fin (some (.goto t)) W3 T3 hf3 hg3
      exact ⟨_, _, hr, _, hfT, hgT, .inr ⟨rfl, .goto t, T3, hIx _ _ _ _ _ hi3 (hf4 _ ⟨hn32, hkL⟩), fun b => Iff.rfl, hn31, hn32, hl4, hk4⟩⟩
    | panic ch => exact hp.elim
    | outgrown => exact hp.elim
  · have hT1 : ¬ T w.heap.size := fun h => by have := hT _ h; omega
    have hT2 : ¬ T (w.heap.size + 1) := fun h => by have := hT _ h; omega
    exact ⟨T, hI _ _ _ _ h0 (hf1 _), fun b => Iff.rfl, hT1, hT2, hL1, hK1⟩
  · -- behind the iterator
    have back : ∀ (Te T0 : Nat → Prop) (W2 : World), Fr (With2 T w.heap.size (w.heap.size + 1)) W1 W2 → Grw (With2 T w.heap.size (w.heap.size + 1)) Te W1 W2 → (∀ b, Te b ↔ With2 T0 w.heap.size (w.heap.size + 1) b) → ¬ T0 w.heap.size → ¬ T0 (w.heap.size + 1) → ∀ o, Fr T w (W2.putObj (w.heap.size + 1) o) ∧ Grw T T0 w (W2.putObj (w.heap.size + 1) o) := fun Te T0 W2 hf hg hTe hn1 hn2 o => by
      constructor
      · refine Fr.putObj (((hf1 T)).trans' hf (fun b hb h => ?_)) (fun h => by omega) o
        rcases h with h | rfl | rfl
        · exact h
        · omega
        · omega
      · intro b hb
        obtain ⟨h1, h2⟩ := hg b ((hTe b).2 (.inl hb))
        refine ⟨?_, by simpa using h2⟩
        rcases h1 with (h1 | rfl | rfl) | h1
        · exact .inl h1
        · exact absurd hb hn1
        · exact absurd hb hn2
        · exact .inr (by omega)
    rintro e W2 ⟨⟨v, rfl⟩, Te, hf, hg, (⟨T0, hi, hTe, hn1, hn2, hl, hk⟩ | ⟨k, hkN, c, T0, hi, hTe, hn1, hn2, hl, hk⟩)⟩
    · obtain ⟨h1, h2⟩ := back Te T0 W2 hf hg hTe hn1 hn2 (.loop { rec .ready none with state := .exhausted })
      have he := run_endLoop (P := P) hl (by rw [hrec]; simp)
      refine ⟨none, _, by rw [hrec] at he; exact he, ?_⟩
      exact hdone _ T0 _ (Nat.le_refl _) hn1 (by rw [hrec] at h1; exact h1) (by rw [hrec] at h2; exact h2) (hI _ _ _ _ hi ((Fr.refl _ W2).putObj (fun _ => ⟨hn2, hkL⟩) _)) ((World.putObj_heap_other (by omega)).trans hk)
    · obtain ⟨h1, h2⟩ := back Te T0 W2 hf hg hTe hn1 hn2 (.loop { rec .done (some c) with state := .exhausted })
      have he := run_endLoop (P := P) hl (by rw [hrec]; simp)
      refine ⟨some c, _, by rw [hrec] at he; exact he, ?_⟩
      exact hstop _ c k T0 _ hkN (Nat.le_refl _) hn1 (by rw [hrec] at h1; exact h1) (by rw [hrec] at h2; exact h2) (hIx _ _ _ _ _ hi ((Fr.refl _ W2).putObj (fun _ => ⟨hn2, hkL⟩) _)) ((World.putObj_heap_other (by omega)).trans hk)
/-! ### A region that draws its order, within a round -/
section
variable {P : Program} {n : Nat}
theorem op_round {r : Nat} {o : Oper} {a : Act} {w : World} {K : Act → World → Prop} {Q : Exit → Act → World → Prop} (hd : ∀ c, o.op ≠ .defer c) (h : o.wp P a w K Q) : o.wpIn (Fence.wide.inRound r) n P a w K Q := by
  refine ⟨fun _ _ => trivial, ?_⟩
  rw [show (Fence.wide.inRound r).round = some r from rfl, Oper.semAt_some _ _ _ hd]
  unfold Oper.wp at h
  generalize (execOp a.eval o).run P w = res at h
  cases res with
  | ok x w' =>
    cases x with
    | value v => exact h
    | skip => exact h
    | defer d => exact h
    | enter f args => exact ⟨fun h => (by cases h), CallsIn.inRound r (callsIn_wide.2 h)⟩
    | row row args =>
      refine ⟨fun h => (by cases h), fun c cs _ => ?_⟩
      obtain ⟨v, w'', hr, hs⟩ := h c cs
      exact ⟨v, w'', hr, by rw [fenced_inRound]; exact stepsIn_wide.2 hs⟩
    | _ => exact h.elim
  | halt x w' => cases x <;> exact h
def noDefer (ops : Array Oper) : Bool := ops.toList.all fun o => match o.op with | .defer _ => false | _ => true
theorem noDefer_spec {ops : Array Oper} (h : noDefer ops = true) {i : Nat} {o : Oper} (ho : ops[i]? = some o) : ∀ c, o.op ≠ .defer c := fun c e => by
  simp only [noDefer, List.all_eq_true] at h
  have := h o (by rw [← Array.getElem?_toList] at ho; exact List.mem_of_getElem? ho)
  rw [e] at this
  cases this
theorem any_round {ops : Array Oper} {md : Region.Mode} {r : Nat} {Q : Exit → Act → World → Prop} (hd : noDefer ops = true) (hQ : ∀ a w, ¬ Q .outgrown a w) : ∀ (fuel : Nat) (listed : Array Bool) (a : Act) (w : World),
    wpAny P md ops Q fuel listed a w → wpAnyIn (Fence.wide.inRound r) n P md ops Q fuel listed a w
  | 0, _, _, _, h => h
  | fuel + 1, listed, a, w, h => ⟨h.1, fun i hi => by
    have h1 := h.2 i hi
    unfold wpOp at h1
    unfold wpOpIn
    split
    · rename_i ho; simp only [ho] at h1; exact any_round hd hQ fuel _ _ _ h1
    · rename_i o ho
      simp only [ho] at h1
      split
      · rename_i hw
        rw [if_pos hw] at h1
        rcases h1 with h1 | ⟨_, a', w', h2⟩
        · exact op_round (noDefer_spec hd ho) (Oper.wp_mono (fun a w h => any_round hd hQ fuel _ a w h) h1)
        · exact absurd h2 (hQ a' w')
      · rename_i hw
        rw [if_neg hw] at h1
        exact ⟨fun _ _ => trivial, any_round hd hQ fuel _ _ _ h1⟩⟩
theorem wpIn_region_fen {id r : Nat} {Q : Exit → Act → World → Prop} {a : Act} {w : World} {l : List Oper} (S : Nat → Prop) [DecidablePred S] (ns : List (Nat × Nat)) (hm : P.follows .mixedOrders = true) (hB : (mixB2 l.toArray (mvOf (ns.map Prod.fst)) && fenB l.toArray (kindOf ns)) = true) (hd : noDefer l.toArray = true) (hQ : ∀ a w, ¬ Q .outgrown a w)
    (h : wpSegsF P l.toArray (fun a' w' => Q .normal a' w') ns (fun w' => ∃ x, w' = graft S w x) l a w.drew) : (Code.region id l.toArray true).wpIn (Fence.wide.inRound r) n P Q a w := by
  rw [Bool.and_eq_true] at hB
  obtain ⟨hB, hF⟩ := hB
  simp only [mixB2, Bool.and_eq_true, List.all_eq_true, List.mem_range] at hB
  obtain ⟨⟨h1, h2⟩, h3⟩ := hB
  have hcalm : ∀ j o, l.toArray[j]? = some o → mvOf (ns.map Prod.fst) j = false → calm2 o = true := fun j o ho hmj => by
    have := h2 j (Array.getElem?_eq_some_iff.1 ho).1
    simpa [hmj, ho] using this
  refine wpIn_region_any hm (any_round hd hQ _ _ _ _ (wpAny_of_F (bar := kindOf ns) hcalm (Q := fun a' w' => Q .normal a' w') (fun _ _ h => h) _ (fun w' => ∃ x, w' = graft S w x) _ _ _ (fr_graft (Fr.drew (Fr.refl S w))) ?_))
  have := anyF_lex (md := .any) (fenB_ok hF) h1 hcalm l 0 (fun w' => ∃ x, w' = graft S w x) (Array.replicate l.length false) a w.drew (by simp) (by simpa using h3)
    (fun j o _ hj => by
      exfalso
      by_cases hjs : j < l.length
      · simp [hjs] at hj
      · simp [hjs] at hj) (fun j hj => by omega) (fr_graft (Fr.drew (Fr.refl S w))) (mixF_of_segs ns _ l 0 a w.drew (by simp) (by simp) h)
  simpa using this
end
/-- append(out, x1 .. xm) within a round: the new elements lie in a new block of their own; out is owned. -/
theorem wpListIn_app {F : Fence} {nF : Nat} {P : Program} {ops : Array Oper} {rest : List Oper} {o : Oper} {a : Act} {Q : Exit → Act → World → Prop} (w : World) (hgd : o.guard = none) (s x : Operand) (t : TypeId)
    (ho : o.op = .call { callee := .builtin .append, args := #[s, x], argTypes := #[t, t] })
    (base : Nat) (e : TypeId) (i : TypeInfo) (z : Value) (size bytes m : Nat) (ht : P.underlying t = some (.slice e)) (hi : P.info? e = some i) (hz : i.zero = some z)
    (hsize : i.size = size) (hby : i.bytes = bytes) (hzs : z.cells.size = size) (hsz : 0 < size) (hb8 : bytes ≤ 1000000)
    (v : Value) (n : Nat) (xs : List Value) (hs : a.eval s = v) (hown : w.ownsRow base e size v n xs) (cs : Array Value) (hcs : cs.size = m * size) (h1 : ∀ u ∈ cs.toList, u.oneCell' = true)
    (hx : a.eval x = .slice (some ⟨w.heap.size, 0, none⟩) m m) (hn : n + m ≤ 1000001) (hbase : base ≤ w.heap.size)
    (h : ∀ v' w', w'.ownsRow base e size v' (n + m) (xs ++ cs.toList) → Fr (fun k => v.ownBlock = some k) w w' → (v'.ownBlock = v.ownBlock ∨ ∃ g, v'.ownBlock = some g ∧ w.heap.size ≤ g) → wpListIn F nF P ops Q rest (a.put o.dst v') w') :
    wpListIn F nF P ops Q (o :: rest) a (w.alloc (.cells cs e)) := by
  have hbytes : (n + m) * bytes ≤ 140737488355328 := Nat.le_trans (Nat.mul_le_mul hn hb8) (by decide)
  refine wpListIn_append_own_at (w := w.alloc (.cells cs e)) hgd s x t ho base e i z size bytes ht hi hz hsize hby hzs hsz v n xs hs (hown.alloc _) ⟨w.heap.size, 0, none⟩ m m cs.toList hx (by simpa using hcs) ?_ h1 (by unfold maxLen; omega) hbytes (by simp; omega) ?_
  · intro j u hu
    have hadd : (⟨w.heap.size, 0, none⟩ : Addr).add j = ⟨w.heap.size, j, none⟩ := by rw [add_none, Nat.zero_add]
    rw [hadd, cell_of_row _ _ j cs e (0, 0) (heap_alloc_new w _)]
    simpa using hu
  · intro v' w' h2 h3 _ h5
    refine h v' w' h2 ?_ ?_
    · exact ((Fr.refl _ w).alloc _).grown h3 (fun k _ hk => hk)
    · rcases h5 with h5 | h5
      · exact .inl h5
      · exact .inr ⟨_, h5, by simp⟩
end Go.Proofs.YtahjnonkhbpnpaaGreat
/- Numbers as bytes, seven bits a byte, the least first: the plain law. No program here. -/
namespace Go.Proofs.YtahjnonkhbpnpaaGreat
/-- a number so that it is not below 0 -/
def tnd (n : Int) : Nat := if n < 0 then ((-(n + 1)) * 2 + 1).toNat else (n * 2).toNat
theorem tnd_lt {n : Int} (h : i64 n) : tnd n < 18446744073709551616 := by
  unfold i64 at h
  unfold tnd
  split <;> omega
theorem tnd_inj {a b : Int} (h : tnd a = tnd b) : a = b := by
  unfold tnd at h
  split at h <;> split at h <;> omega
def ob (n : Nat) : UInt8 := UInt8.ofNat n
theorem ob_toNat {n : Nat} (h : n < 256) : (ob n).toNat = n := by
  unfold ob
  rw [UInt8.toNat_ofNat']
  omega
/-- a number's bytes, at most k + 1 of them -/
def vb : Nat → Nat → List UInt8
  | 0, u => [ob u]
  | k + 1, u => if 128 ≤ u then ob (u % 128 + 128) :: vb k (u / 128) else [ob u]
def vint (n : Int) : List UInt8 := vb 10 (tnd n)
theorem vb_more {k u : Nat} (h : 128 ≤ u) : vb (k + 1) u = ob (u % 128 + 128) :: vb k (u / 128) := by rw [vb, if_pos h]
theorem vb_last {k u : Nat} (h : u < 128) : vb k u = [ob u] := by
  cases k with
  | zero => rfl
  | succ k => rw [vb, if_neg (by omega)]
theorem vb_pos (k u : Nat) : 0 < (vb k u).length := by
  cases k with
  | zero => simp [vb]
  | succ k => unfold vb; split <;> simp
theorem vb_len (k u : Nat) : (vb k u).length ≤ k + 1 := by
  induction k generalizing u with
  | zero => simp [vb]
  | succ k ih => unfold vb; split <;> simp; exact ih _
theorem vint_len (n : Int) : 0 < (vint n).length ∧ (vint n).length ≤ 11 := ⟨vb_pos _ _, vb_len _ _⟩
/-- bytes of a number and what stands behind them can be told apart -/
theorem vb_cut {k u v : Nat} (hu : u < 128 ^ (k + 1)) (hv : v < 128 ^ (k + 1)) {s t : List UInt8} (h : vb k u ++ s = vb k v ++ t) : u = v ∧ s = t := by
  induction k generalizing u v with
  | zero =>
    simp only [vb, List.cons_append, List.nil_append, List.cons.injEq] at h
    have h1 := congrArg UInt8.toNat h.1
    rw [ob_toNat (by omega), ob_toNat (by omega)] at h1
    exact ⟨h1, h.2⟩
  | succ k ih =>
    have hu' : u / 128 < 128 ^ (k + 1) := Nat.div_lt_of_lt_mul (by rw [Nat.mul_comm, ← Nat.pow_succ]; exact hu)
    have hv' : v / 128 < 128 ^ (k + 1) := Nat.div_lt_of_lt_mul (by rw [Nat.mul_comm, ← Nat.pow_succ]; exact hv)
    by_cases h1 : 128 ≤ u <;> by_cases h2 : 128 ≤ v
    · rw [vb_more h1, vb_more h2] at h
      simp only [List.cons_append, List.cons.injEq] at h
      have h3 := congrArg UInt8.toNat h.1
      rw [ob_toNat (by omega), ob_toNat (by omega)] at h3
      obtain ⟨h4, h5⟩ := ih hu' hv' h.2
      exact ⟨by omega, h5⟩
    · rw [vb_more h1, vb_last (u := v) (by omega)] at h
      simp only [List.cons_append, List.nil_append, List.cons.injEq] at h
      have h3 := congrArg UInt8.toNat h.1
      rw [ob_toNat (by omega), ob_toNat (by omega)] at h3
      omega
    · rw [vb_last (u := u) (by omega), vb_more h2] at h
      simp only [List.cons_append, List.nil_append, List.cons.injEq] at h
      have h3 := congrArg UInt8.toNat h.1
      rw [ob_toNat (by omega), ob_toNat (by omega)] at h3
      omega
    · rw [vb_last (u := u) (by omega), vb_last (u := v) (by omega)] at h
      simp only [List.cons_append, List.nil_append, List.cons.injEq] at h
      have h3 := congrArg UInt8.toNat h.1
      rw [ob_toNat (by omega), ob_toNat (by omega)] at h3
      exact ⟨h3, h.2⟩
theorem vint_cut {a b : Int} (ha : i64 a) (hb : i64 b) {s t : List UInt8} (h : vint a ++ s = vint b ++ t) : a = b ∧ s = t := by
  have h1 := tnd_lt ha
  have h2 := tnd_lt hb
  obtain ⟨h3, h4⟩ := vb_cut (k := 10) (u := tnd a) (v := tnd b) (Nat.lt_of_lt_of_le h1 (by decide)) (Nat.lt_of_lt_of_le h2 (by decide)) h
  exact ⟨tnd_inj h3, h4⟩
end Go.Proofs.YtahjnonkhbpnpaaGreat
/- The walks of the writer of numbers (package wire) and of the document's. -/
namespace Go.Proofs.YtahjnonkhbpnpaaGreat
open Go.RowKit
theorem byte_info : (Tryz.prog.info? 5).map (fun i => (i.zero, i.size, i.bytes)) = some (some (.int .u8 0), 1, 1) := by kernel_rfl

theorem not64 {q : Nat} (hq : q < 18446744073709551616) : q ^^^ 18446744073709551615 = 18446744073709551615 - q := by
  have h := BitVec.toNat_not (x := BitVec.ofNat 64 q)
  rw [← BitVec.xor_allOnes, BitVec.toNat_xor] at h
  simp [Nat.mod_eq_of_lt hq] at h
  rw [h]
theorem turn_neg {n : Int} (h : n < 0) (h2 : -9223372036854775808 ≤ n) : bits .xor .u64 (IntKind.u64.wrap (IntKind.u64.wrap n * 2)) (IntKind.u64.wrap (n / 9223372036854775808)) = ((tnd n : Nat) : Int) := by
  have h1 : n / 9223372036854775808 = -1 := by omega
  rw [h1, IntKind.wrap_u64, IntKind.wrap_u64, IntKind.wrap_u64]
  have h3 : n % 18446744073709551616 * 2 % 18446744073709551616 = (((n * 2 + 18446744073709551616).toNat : Nat) : Int) := by omega
  have h4 : (-1 : Int) % 18446744073709551616 = ((18446744073709551615 : Nat) : Int) := by decide
  rw [h3, h4, u64_xor_nat _ _ (by omega) (by decide), not64 (by omega)]
  unfold tnd
  rw [if_pos h]
  omega
theorem turn_pos {n : Int} (h : 0 ≤ n) (h2 : n ≤ 9223372036854775807) : bits .xor .u64 (n * 2) (n / 9223372036854775808) = ((tnd n : Nat) : Int) := by
  have h1 : n / 9223372036854775808 = ((0 : Nat) : Int) := by omega
  have h3 : n * 2 = (((n * 2).toNat : Nat) : Int) := by omega
  rw [h1, h3, u64_xor_nat _ _ (by omega) (by decide), Nat.xor_zero]
  unfold tnd
  rw [if_neg (by omega)]

theorem turned_any {w : World} {n : Int} (hn : i64 n) :
    Calls Tryz.prog 123 #[.int .i64 n] w fun e w' => e = .returned (.int .u64 ((tnd n : Nat) : Int)) ∧ w = w' := by
  unfold i64 at hn
  by_cases h : n < 0
  · have HT := Lib.hid (turn_neg h hn.1)
    go_enter Tryz.func123, Tryz.ntmps123
    go_wp2_with fail
    go_ret
    exact ⟨by rw [← HT.out]; rfl, rfl⟩
  · have HT := Lib.hid (turn_pos (by omega) hn.2)
    go_enter Tryz.func123, Tryz.ntmps123
    go_wp2_with fail
    go_ret
    exact ⟨by rw [← HT.out]; rfl, rfl⟩

/-- the document's bytes of a number -/
theorem ob_more (x : Nat) : bv (ob (x % 128 + 128)) = Value.int .u8 ((x : Int) % 128 + 128) := by
  unfold bv
  rw [ob_toNat (by omega)]
  simp
theorem ob_one (x : Nat) (hx : x < 256) : ([ob x].map bv) = [Value.int .u8 (x : Int)] := by
  simp [bv, ob_toNat hx]
set_option maxRecDepth 100000 in
theorem refInt_any {w : World} {n : Int} (hn : i64 n) :
    Calls Tryz.prog 25 #[.int .i64 n] w fun e w' => ∃ v, e = .returned v ∧ w'.ownsRow w.heap.size 5 1 v (vint n).length ((vint n).map bv) ∧ Below w.heap.size w w' := by
  obtain ⟨i0, hi0, hz0, hz1, hz2⟩ := info_parts byte_info
  have hlt := tnd_lt hn
  unfold i64 at hn
  have hneg : Hid (n < 0 → -(n + 1) * 2 + 1 = ((tnd n : Nat) : Int)) := by
    unfold Hid
    intro h
    unfold tnd
    rw [if_pos h]
    omega
  have hpos : Hid (0 ≤ n → n * 2 = ((tnd n : Nat) : Int)) := by
    unfold Hid
    intro h
    unfold tnd
    rw [if_neg (by omega)]
    omega
  have HV : Hid (vint n = vb 10 (tnd n)) := rfl
  go_enter Tryz.func25, Tryz.ntmps25
  by_cases h : n < 0
  case' pos =>
    go_wp2_with fail
    rw [hneg.out h]
  case' neg =>
    go_wp2_with fail
    rw [hpos.out (by omega)]
  all_goals
    clear hpos hneg
    generalize tnd n = u0 at hlt HV ⊢
    have hu0 : u0 < 128 ^ 11 := Nat.lt_of_lt_of_le hlt (by decide)
    go_loopw [3, 4, 5] (fun u out i wr => ∃ (k uu : Nat) (dn : List UInt8), k ≤ 10 ∧ i = .int .i64 k ∧ u = .int .u64 (uu : Int) ∧ uu < 18446744073709551616 ∧ uu < 128 ^ (11 - k) ∧ dn.length = k ∧ Hid (vint n = dn ++ vb (10 - k) uu) ∧ wr.ownsRow w.heap.size 5 1 out k (dn.map bv) ∧ Below w.heap.size w wr) (fun _ _ i _ => 10 - (intOf i).toNat)
    case atStart => exact ⟨0, u0, [], by omega, rfl, rfl, hlt, hu0, rfl, HV, World.ownsRow_nil _ _ _ _, Below.refl _ _⟩
    case round =>
      obtain ⟨k, uu, dn, hk, rfl, rfl, hul, hub, hdl, HD, hown, hbw⟩ := hrel
      have hsz := hbw.size
      by_cases hgo : k < 10 ∧ 128 ≤ uu
      · obtain ⟨h10, h128⟩ := hgo
        have hbd : uu / 128 < 128 ^ (11 - (k + 1)) := Nat.div_lt_of_lt_mul (by rw [Nat.mul_comm, ← Nat.pow_succ, show (11 - (k + 1)).succ = 11 - k by omega]; exact hub)
        have HD2 : Hid (vint n = (dn ++ [ob (uu % 128 + 128)]) ++ vb (10 - (k + 1)) (uu / 128)) := by
          unfold Hid
          rw [HD.out, show 10 - k = (10 - (k + 1)) + 1 by omega, vb_more h128, List.append_assoc]
          rfl
        have hbl := (Below.refl wr.heap.size wr).alloc (Nat.le_refl _) (.cells #[.int .u8 ((uu : Int) % 128 + 128)] 5)
        go_wp2_with (at_builtin; refine wpList_app1 wr (by rfl) _ _ 36 (by rfl) w.heap.size 5 i0 _ 1 1 Tryz.underlying36 hi0 hz0 hz1 hz2 rfl (by decide) (by decide) _ k _ (by rfl) hown #[.int .u8 ((uu : Int) % 128 + 128)] rfl (by simp [Value.oneCell']) (by rfl) (by omega) (by omega) ?_; intro v' w2 hown2 hf2 hat2)
        exact ⟨⟨k + 1, uu / 128, dn ++ [ob (uu % 128 + 128)], by omega, by go_num, by simp, by omega, hbd, by simp [hdl], HD2, by rw [List.map_append, List.map_cons, List.map_nil, ob_more]; exact hown2, hbw.trans (hf2.below (fun g hg h => own_ne hown (by omega) h.symm) (by omega))⟩, by simp [intOf]; omega⟩
      · have h128 : uu < 128 := by
          by_cases h10 : k < 10
          · omega
          · obtain rfl : k = 10 := by omega
            simpa using hub
        have HD2 : Hid (vint n = dn ++ [ob uu]) := by unfold Hid; rw [HD.out, vb_last h128]
        have hlen : (vint n).length = k + 1 := by rw [HD2.out]; simp [hdl]
        have hend : (decide ((k : Int) < 10) = true ∧ decide ((128 : Int) ≤ uu) = false) ∨ decide ((k : Int) < 10) = false := by
          by_cases h10 : k < 10
          · exact .inl ⟨by simp; omega, by simp; omega⟩
          · exact .inr (by simp; omega)
        clear hgo
        rcases hend with ⟨hk1, hk2⟩ | hk1
        all_goals
          go_wp2_with (at_builtin; refine wpList_app1 wr (by rfl) _ _ 36 (by rfl) w.heap.size 5 i0 _ 1 1 Tryz.underlying36 hi0 hz0 hz1 hz2 rfl (by decide) (by decide) _ k _ (by rfl) hown #[.int .u8 (uu : Int)] rfl (by simp [Value.oneCell']) (by rfl) (by omega) (by omega) ?_; intro v' w2 hown2 hf2 hat2)
          go_ret
          exact ⟨v', rfl, by rw [HD2.out, List.map_append, ob_one _ (by omega)]; exact hown2, hbw.trans (hf2.below (fun g hg h => own_ne hown (by omega) h.symm) (by omega))⟩

/-! ### The writer: one cell at block g holds its row, which lies above 'base'. -/
def Wrt (w : World) (g base : Nat) (l : List UInt8) : Prop := ∃ v, Blk w g 63 #[v] ∧ g < base ∧ base ≤ w.heap.size ∧ w.ownsRow base 5 1 v l.length (l.map bv)
theorem Wrt.new (w : World) : Wrt (w.alloc (.cells #[.slice none 0 0] 63)) w.heap.size (w.heap.size + 1) [] :=
  ⟨_, Blk.new w _ _, Nat.lt_succ_self _, by simp, World.ownsRow_nil _ _ _ _⟩
theorem Wrt.keep {w w' : World} {g base : Nat} {l : List UInt8} (h : Wrt w g base l) (hb : Below w.heap.size w w') : Wrt w' g base l := by
  obtain ⟨v, h1, h2, h3, h4⟩ := h
  exact ⟨v, h1.keep hb, h2, Nat.le_trans h3 hb.size, own_below h4 hb⟩

/-- put of one byte, that lies in the newest block -/
theorem put_any {w : World} {g base : Nat} {l : List UInt8} (h : Wrt w g base l) (hl : l.length ≤ 999999) (x : UInt8) :
    Calls Tryz.prog 116 #[.pointer (some ⟨g, 0, none⟩), .slice (some ⟨w.heap.size, 0, none⟩) 1 1] (w.alloc (.cells #[bv x] 5)) fun e w' => e = .returned (.tuple #[]) ∧ Wrt w' g base (l ++ [x]) ∧ Fr (fun k => k = g ∨ base ≤ k) w w' := by
  obtain ⟨i0, hi0, hz0, hz1, hz2⟩ := info_parts byte_info
  obtain ⟨v, h1, h2, h3, h4⟩ := h
  have hgl := h1.lt
  have h1a := h1.alloc (.cells #[bv x] 5)
  have c0 : (w.alloc (.cells #[bv x] 5)).cell? ⟨g, 0, none⟩ = some v := h1a.cell 0
  go_enter Tryz.func116, Tryz.ntmps116
  go_wp2_with (at_builtin; refine wpList_app1 w (by rfl) _ _ 36 (by rfl) base 5 i0 _ 1 1 Tryz.underlying36 hi0 hz0 hz1 hz2 rfl (by decide) (by decide) _ l.length _ (by rfl) h4 #[bv x] rfl (by simp [bv, Value.oneCell']) (by rfl) (by omega) (by omega) ?_; intro v' w2 hown2 hf2 hat2; obtain ⟨A', c', rfl, -, -⟩ := Sl.of_own hown2; have hb2 := h1.fr hf2 (fun e => own_ne h4 h2 e.symm); have hc2 := hb2.cell 0; have hz2 := hb2.frozen 0)
  go_end0
  have hfs : Fr (fun k => k = g) w2 (w2.setCell ⟨g, 0, none⟩ (.slice A' (l.length + 1) c')) := Fr.setCell (S := fun k => k = g) (Fr.refl _ w2) (p := ⟨g, 0, none⟩) (fun _ => rfl) _
  refine ⟨rfl, ⟨_, hb2.set_ 0 _, h2, Nat.le_trans h3 (Nat.le_trans hf2.size hfs.size), ?_⟩, (hf2.mono (fun k _ hk => .inr (h4.lt k hk).1)).trans (hfs.mono (fun k _ hk => .inl hk))⟩
  rw [List.length_append, List.length_singleton, List.map_append]
  exact own_far hown2 hfs (fun k hk => by omega)

theorem or128_fin : ∀ x : Fin 256, x.val ||| 128 = x.val % 128 + 128 := by decide +kernel
theorem or128 (u : Nat) : Value.int .u8 (bits .or .u8 ((u : Int) % 256) 128) = bv (ob (u % 128 + 128)) := by
  have h := u8_or_nat (u % 256) 128 (Nat.mod_lt _ (by decide)) (by decide)
  rw [or128_fin ⟨u % 256, Nat.mod_lt _ (by decide)⟩] at h
  rw [show ((u % 256 : Nat) : Int) = (u : Int) % 256 from by simp] at h
  rw [ob_more]
  congr 1
  rw [show ((128 : Nat) : Int) = 128 from rfl] at h
  rw [h]
  simp only [Nat.mod_mod_of_dvd _ (show 128 ∣ 256 by decide)]
  simp
set_option maxRecDepth 100000 in
/-- the writer takes a number -/
theorem writeInt_any {w : World} {g base : Nat} {l : List UInt8} (h : Wrt w g base l) (hl : l.length ≤ 999900) {n : Int} (hn : i64 n) :
    Calls Tryz.prog 66 #[.pointer (some ⟨g, 0, none⟩), .int .i64 n] w fun e w' => e = .returned (.tuple #[]) ∧ Wrt w' g base (l ++ vint n) ∧ Fr (fun k => k = g ∨ base ≤ k) w w' := by
  have hlt := tnd_lt hn
  have HV : Hid (vint n = vb 10 (tnd n)) := rfl
  go_enter Tryz.func66, Tryz.ntmps66
  go_wp2_with fail
  refine (turned_any hn).mono ?_
  rintro e w1 ⟨rfl, rfl⟩
  generalize tnd n = u0 at hlt HV ⊢
  have hu0 : u0 < 128 ^ 11 := Nat.lt_of_lt_of_le hlt (by decide)
  go_wp2_with fail
  go_loopw [4] (fun u wr => ∃ (k uu : Nat) (dn : List UInt8), k ≤ 10 ∧ u = .int .u64 (uu : Int) ∧ uu < 18446744073709551616 ∧ uu < 128 ^ (11 - k) ∧ dn.length = k ∧ Hid (vint n = dn ++ vb (10 - k) uu) ∧ Wrt wr g base (l ++ dn) ∧ Fr (fun k => k = g ∨ base ≤ k) w wr) (fun u _ => (intOf u).toNat)
  case atStart => exact ⟨0, u0, [], by omega, rfl, hlt, hu0, rfl, HV, by simpa using h, Fr.refl _ _⟩
  case round =>
    obtain ⟨k, uu, dn, hk, rfl, hul, hub, hdl, HD, hw, hfw⟩ := hrel
    have hlen : (l ++ dn).length ≤ 999999 := by simp; omega
    by_cases h128 : 128 ≤ uu
    · have h10 : k < 10 := by
        rcases Nat.lt_or_ge k 10 with h | h
        · exact h
        · obtain rfl : k = 10 := by omega
          simp at hub
          omega
      have hbd : uu / 128 < 128 ^ (11 - (k + 1)) := Nat.div_lt_of_lt_mul (by rw [Nat.mul_comm, ← Nat.pow_succ, show (11 - (k + 1)).succ = 11 - k by omega]; exact hub)
      have HD2 : Hid (vint n = (dn ++ [ob (uu % 128 + 128)]) ++ vb (10 - (k + 1)) (uu / 128)) := by
        unfold Hid
        rw [HD.out, show 10 - k = (10 - (k + 1)) + 1 by omega, vb_more h128, List.append_assoc]
        rfl
      have HO := Lib.hid (or128 uu)
      go_wp2_with fail
      rw [HO.out]
      refine (put_any hw hlen _).mono ?_
      rintro e w2 ⟨rfl, hw2, hf2⟩
      go_wp2_with fail
      exact ⟨⟨k + 1, uu / 128, dn ++ [ob (uu % 128 + 128)], by omega, by simp, by omega, hbd, by simp [hdl], HD2, by rw [← List.append_assoc]; exact hw2, hfw.trans hf2⟩, by simp [intOf]; omega⟩
    · have HO : Hid (Value.int .u8 (uu : Int) = bv (ob uu)) := by
        have := ob_one uu (by omega)
        simpa [Hid] using this.symm
      have HD2 : Hid (vint n = dn ++ [ob uu]) := by unfold Hid; rw [HD.out, vb_last (by omega)]
      go_wp2_with fail
      rw [HO.out]
      refine (put_any hw hlen _).mono ?_
      rintro e w2 ⟨rfl, hw2, hf2⟩
      go_wp2_with fail
      go_end0
      exact ⟨rfl, by rw [HD2.out, ← List.append_assoc]; exact hw2, hfw.trans hf2⟩

/-- an empty literal is an owned row -/
theorem own_lit (w : World) (e : TypeId) (size : Nat) : (w.alloc (.cells #[] e)).ownsRow w.heap.size e size (.slice (some ⟨w.heap.size, 0, none⟩) 0 0) 0 [] :=
  ⟨by simp, .inr ⟨w.heap.size, 0, #[], rfl, Nat.le_refl _, heap_alloc_new w _, Nat.le_refl _, by unfold maxLen; omega, by simp, by simp⟩⟩
theorem bv_cell (l : List UInt8) : ∀ u ∈ l.map bv, u.oneCell' = true := by
  intro u hu
  obtain ⟨x, _, rfl⟩ := List.mem_map.1 hu
  rfl
theorem clone_any {w : World} {A : Option Addr} {n c : Nat} {l : List UInt8} (h : SlB w A n c l) (hn : n ≤ 1000000) :
    Calls Tryz.prog 80 #[.slice A n c] w fun e w' => ∃ v, e = .returned v ∧ w'.ownsRow w.heap.size 5 1 v n (l.map bv) ∧ Below w.heap.size w w' := by
  obtain ⟨i0, hi0, hz0, hz1, hz2⟩ := info_parts byte_info
  cases A with
  | none =>
    have hc : c = 0 := h.1.2.2.2.1 rfl
    have hn0 : n = 0 := by have := h.1.2.1; omega
    subst hc hn0
    obtain rfl : l = [] := List.eq_nil_of_length_eq_zero h.2
    have hnil := fun w => Lib.run_eql_slice_nil (P := Tryz.prog) w 36 5 none 0 0 0 0 Tryz.underlying36
    go_enter Tryz.func80, Tryz.ntmps80
    go_wp2_with fail
    go_ret
    exact ⟨_, rfl, World.ownsRow_nil _ _ _ _, Below.refl _ _⟩
  | some ad =>
    have hb0 := (Below.refl w.heap.size w).alloc (Nat.le_refl _) (.cells #[] 5)
    have hown0 := own_lit w 5 1
    have hl0 := h.keep hb0
    have hnews : ∀ (j : Nat) (u : Value), (l.map bv)[j]? = some u → (w.alloc (.cells #[] 5)).cell? (ad.add j) = some u := by
      intro j u hu
      have hlt : j < n := by
        have := (List.getElem?_eq_some_iff.1 hu).1
        rw [List.length_map, h.2] at this
        exact this
      obtain ⟨b, o, e, _, hc⟩ := hl0.1.at_ (by omega)
      cases e
      rw [add_none]
      exact hc j u hu
    have hlen := h.2
    have hnil := fun w => Lib.run_eql_slice_nil (P := Tryz.prog) w 36 5 (some ad) n c 0 0 Tryz.underlying36
    go_enter Tryz.func80, Tryz.ntmps80
    go_wp2_with (at_builtin; refine wpList_append_own_at _ (by rfl) _ _ 36 (by rfl) w.heap.size 5 i0 _ 1 1 Tryz.underlying36 hi0 hz0 hz1 hz2 rfl (by decide) _ 0 _ (by rfl) hown0 ad n c (l.map bv) (by rfl) (by simp; omega) hnews (bv_cell l) (by unfold maxLen; omega) (by omega) (by simp) ?_; intro v' w1 hown1 hg1 hnil1 hat1)
    go_ret
    exact ⟨v', rfl, by rw [Nat.zero_add, List.nil_append] at hown1; exact hown1, hb0.grown hg1 (by simp) (fun k e => by cases e; exact Nat.le_refl _)⟩

theorem writerBytes_any {w : World} {g base : Nat} {l : List UInt8} (h : Wrt w g base l) (hl : l.length ≤ 1000000) :
    Calls Tryz.prog 24 #[.pointer (some ⟨g, 0, none⟩)] w fun e w' => ∃ v, e = .returned v ∧ w'.ownsRow w.heap.size 5 1 v l.length (l.map bv) ∧ Below w.heap.size w w' := by
  obtain ⟨v, h1, h2, h3, h4⟩ := h
  have hgl := h1.lt
  have c0 : w.cell? ⟨g, 0, none⟩ = some v := h1.cell 0
  obtain ⟨A', c', rfl, hs, -⟩ := SlB.of_own h4
  go_enter Tryz.func24, Tryz.ntmps24
  go_wp2_with fail
  refine (clone_any hs hl).mono ?_
  rintro e w2 ⟨v2, rfl, hown2, hb2⟩
  go_wp2_with fail
  go_ret
  exact ⟨v2, rfl, hown2, hb2⟩
end Go.Proofs.YtahjnonkhbpnpaaGreat
/- Small words: a whole struct stored at once (setRow). -/
namespace Go.Proofs.YtahjnonkhbpnpaaGreat
open Go.RowKit
def setRow (w : World) (g : Nat) : Nat → List Value → World
  | _, [] => w
  | i, v :: vs => setRow (w.setCell ⟨g, i, none⟩ v) g (i + 1) vs
section
variable {w w0 : World} {g : Nat} {t : TypeId}
theorem Blk.rowFrom : ∀ (vs : List Value) (i : Nat) (w : World) (cs : Array Value), Blk w g t cs → i + vs.length ≤ cs.size → Blk (setRow w g i vs) g t (cs.toList.take i ++ vs ++ cs.toList.drop (i + vs.length)).toArray
  | [], i, w, cs, h, hl => by simpa [setRow] using h
  | v :: vs, i, w, cs, h, hl => by
    rw [List.length_cons] at hl
    have := Blk.rowFrom vs (i + 1) _ _ (h.set_ i v) (by simp; omega)
    have hi : i < cs.toList.length := by simp; omega
    unfold setRow
    refine cast ?_ this
    congr 2
    rw [Array.toList_setIfInBounds, List.drop_set_of_lt (by omega), List.take_set, List.take_succ_eq_append_getElem hi, List.set_append_right _ _ (by rw [List.length_take]; omega), List.length_cons]
    rw [List.length_take, Nat.min_eq_left (by omega), Nat.sub_self]
    simp [Nat.add_assoc, Nat.add_comm 1]
theorem Blk.row {cs : Array Value} {vs : List Value} (h : Blk w g t cs) (hl : cs.size = vs.length) : Blk (setRow w g 0 vs) g t vs.toArray := by
  have := Blk.rowFrom vs 0 w cs h (by omega)
  rw [List.take_zero, List.nil_append, Nat.zero_add, List.drop_eq_nil_of_le (by simp; omega), List.append_nil] at this
  exact this
theorem Below.row {B : Nat} : ∀ (vs : List Value) (i : Nat) {w : World}, Below B w0 w → B ≤ g → Below B w0 (setRow w g i vs)
  | [], _, _, h, _ => h
  | _ :: vs, i, _, h, hg => Below.row vs (i + 1) (h.setCell (p := ⟨g, i, none⟩) hg _) hg
theorem Fr.row {S : Nat → Prop} : ∀ (vs : List Value) (i : Nat) {w : World}, Fr S w0 w → (g < w0.heap.size → S g) → Fr S w0 (setRow w g i vs)
  | [], _, _, h, _ => h
  | _ :: vs, i, _, h, hg => Fr.row vs (i + 1) (h.setCell (p := ⟨g, i, none⟩) hg _) hg
end
end Go.Proofs.YtahjnonkhbpnpaaGreat
/- conf's writer: what it owns, and its walks on bytes, numbers and truths. -/
namespace Go.Proofs.YtahjnonkhbpnpaaGreat
open Go.RowKit
/-- append(out, x), of longer rows. -/
theorem wpList_app1L {P : Program} {ops : Array Oper} {rest : List Oper} {o : Oper} {a : Act} {Q : Exit → Act → World → Prop} (w : World) (hgd : o.guard = none) (s x : Operand) (t : TypeId)
    (ho : o.op = .call { callee := .builtin .append, args := #[s, x], argTypes := #[t, t] })
    (base : Nat) (e : TypeId) (i : TypeInfo) (z : Value) (size bytes : Nat) (ht : P.underlying t = some (.slice e)) (hi : P.info? e = some i) (hz : i.zero = some z)
    (hsize : i.size = size) (hby : i.bytes = bytes) (hzs : z.cells.size = size) (hsz : 0 < size) (hb8 : bytes ≤ 1000000)
    (v : Value) (n : Nat) (xs : List Value) (hs : a.eval s = v) (hown : w.ownsRow base e size v n xs) (cs : Array Value) (hcs : cs.size = size) (h1 : ∀ u ∈ cs.toList, u.oneCell' = true)
    (hx : a.eval x = .slice (some ⟨w.heap.size, 0, none⟩) 1 1) (hn : n ≤ 100000000) (hbase : base ≤ w.heap.size)
    (h : ∀ v' w', w'.ownsRow base e size v' (n + 1) (xs ++ cs.toList) → Fr (fun k => v.ownBlock = some k) w w' → (v'.ownBlock = v.ownBlock ∨ ∃ g, v'.ownBlock = some g ∧ w.heap.size ≤ g) → wpList P ops Q rest (a.put o.dst v') w') :
    wpList P ops Q (o :: rest) a (w.alloc (.cells cs e)) := by
  have hbytes : (n + 1) * bytes ≤ 140737488355328 := Nat.le_trans (Nat.mul_le_mul (show n + 1 ≤ 100000001 by omega) hb8) (by decide)
  refine wpList_append_own_at (w.alloc (.cells cs e)) hgd s x t ho base e i z size bytes ht hi hz hsize hby hzs hsz v n xs hs (hown.alloc _) ⟨w.heap.size, 0, none⟩ 1 1 cs.toList hx (by simpa using hcs) ?_ h1 (by unfold maxLen; omega) hbytes (by simp; omega) ?_
  · intro j u hu
    have hadd : (⟨w.heap.size, 0, none⟩ : Addr).add j = ⟨w.heap.size, j, none⟩ := by rw [add_none, Nat.zero_add]
    rw [hadd, cell_of_row _ _ j cs e (0, 0) (heap_alloc_new w _)]
    simpa using hu
  · intro v' w' h2 h3 _ h5
    refine h v' w' h2 ?_ ?_
    · exact ((Fr.refl _ w).alloc _).grown h3 (fun k _ hk => hk)
    · rcases h5 with h5 | h5
      · exact .inl h5
      · exact .inr ⟨_, h5, by simp⟩
/-- the writer at block g: its bytes, and whether a list was too long; T: the blocks that it owns, none of them below B0. -/
structure WrC (W : World) (B0 g : Nat) (T : Nat → Prop) (l : List UInt8) (lg : Bool) : Prop where
  blk : ∃ v, Blk W g 65 #[v, .bool lg] ∧ W.ownsRow (g + 1) 5 1 v l.length (l.map bv) ∧ ∀ b, v.ownBlock = some b → T b
  tg : T g
  lo : ∀ b, T b → B0 ≤ b
  bnd : Bnd T W
theorem WrC.lt {W : World} {B0 g : Nat} {T : Nat → Prop} {l : List UInt8} {lg : Bool} (h : WrC W B0 g T l lg) : g < W.heap.size := h.bnd g h.tg
theorem WrC.fr {W W' : World} {B0 g : Nat} {T S : Nat → Prop} {l : List UInt8} {lg : Bool} (h : WrC W B0 g T l lg) (hf : Fr S W W') (hS : ∀ b, T b → ¬ S b) : WrC W' B0 g T l lg := by
  obtain ⟨⟨v, h1, h2, h3⟩, h4, h5, h6⟩ := h
  exact ⟨⟨v, h1.fr hf (hS g h4), own_fr h2 hf (fun b _ hb => hS b (h3 b hb)), h3⟩, h4, h5, fun b hb => Nat.lt_of_lt_of_le (h6 b hb) hf.size⟩
theorem WrC.keep {W W' : World} {B0 g : Nat} {T : Nat → Prop} {l : List UInt8} {lg : Bool} (h : WrC W B0 g T l lg) (hb : Below W.heap.size W W') : WrC W' B0 g T l lg :=
  h.fr (Fr.of_below hb (fun _ => False)) (fun _ _ h => h)
/-- behind a call that writes. -/
def Wro (W : World) (B0 g : Nat) (T : Nat → Prop) (l : List UInt8) (lg : Bool) (e : Ending) (W' : World) : Prop := e = .returned (.tuple #[]) ∧ ∃ T', WrC W' B0 g T' l lg ∧ Fr T W W' ∧ Grw T T' W W'
theorem Wro.below {W0 W W' : World} {B0 g : Nat} {T : Nat → Prop} {l : List UInt8} {lg : Bool} {e : Ending} (h : Wro W B0 g T l lg e W') (hb : Below W0.heap.size W0 W) : Wro W0 B0 g T l lg e W' := by
  obtain ⟨h1, T', h2, h3, h4⟩ := h
  refine ⟨h1, T', h2, (Fr.of_below hb T).trans h3, fun b hT => ?_⟩
  obtain ⟨h5, h6⟩ := h4 b hT
  exact ⟨h5.imp id (fun h => by have := hb.size; omega), h6⟩
theorem Grw.alloc_left {W0 W W' : World} {T T' : Nat → Prop} (h : Grw T T' W W') (hs : W0.heap.size ≤ W.heap.size) : Grw T T' W0 W' := fun b hT => by
  obtain ⟨h5, h6⟩ := h b hT
  exact ⟨h5.imp id (fun h => by omega), h6⟩
/-- put of one byte, that lies in the newest block. -/
theorem putC_any {W : World} {B0 g : Nat} {T : Nat → Prop} {l : List UInt8} {lg : Bool} (h : WrC W B0 g T l lg) (hB : B0 ≤ W.heap.size) (hl : l.length ≤ 90000000) (x : UInt8) :
    Calls Tryz.prog 116 #[.pointer (some ⟨g, 0, none⟩), .slice (some ⟨W.heap.size, 0, none⟩) 1 1] (W.alloc (.cells #[bv x] 5)) (Wro W B0 g T (l ++ [x]) lg) := by
  obtain ⟨i0, hi0, hz0, hz1, hz2⟩ := info_parts byte_info
  have hgl := h.lt
  obtain ⟨⟨v, h1, h4, h5⟩, h6, h7, h8⟩ := h
  have h1a := h1.alloc (.cells #[bv x] 5)
  have c0 : (W.alloc (.cells #[bv x] 5)).cell? ⟨g, 0, none⟩ = some v := h1a.cell 0
  go_enter Tryz.func116, Tryz.ntmps116
  go_wp2_with (at_builtin; refine wpList_app1L W (by rfl) _ _ 36 (by rfl) (g + 1) 5 i0 _ 1 1 Tryz.underlying36 hi0 hz0 hz1 hz2 rfl (by decide) (by decide) _ l.length _ (by rfl) h4 #[bv x] rfl (by simp [bv, Value.oneCell']) (by rfl) (by omega) (by omega) ?_; intro v' w2 hown2 hf2 hat2; obtain ⟨A', c', rfl, -, -⟩ := Sl.of_own hown2; have hb2 := h1.fr hf2 (fun e => own_ne h4 (Nat.lt_succ_self g) e.symm); have hc2 : w2.cell? ⟨g, 0, none⟩ = some v := hb2.cell 0; have hz2' : w2.frozen? ⟨g, 0, none⟩ = false := hb2.frozen 0)
  go_end0
  have hfs : Fr (fun k => k = g) w2 (w2.setCell ⟨g, 0, none⟩ (.slice A' (l.length + 1) c')) := Fr.setCell (S := fun k => k = g) (Fr.refl _ w2) (p := ⟨g, 0, none⟩) (fun _ => rfl) _
  have hsz := hf2.size
  refine ⟨rfl, fun b => T b ∨ (W.heap.size ≤ b ∧ b < w2.heap.size), ⟨⟨_, hb2.set_ 0 _, ?_, fun b hb => ?_⟩, .inl h6, fun b hb => ?_, fun b hb => ?_⟩, (hf2.mono (fun k _ hk => h5 k hk)).setCell (p := ⟨g, 0, none⟩) (fun _ => h6) _, fun b hb => ?_⟩
  · rw [List.length_append, List.length_singleton, List.map_append]
    exact own_far hown2 hfs (fun k hk => by omega)
  · have hlt := (hown2.lt _ hb).2
    rcases hat2 with h | ⟨g', h, hg'⟩
    · exact .inl (h5 b (h ▸ hb))
    · rw [h] at hb
      cases hb
      exact .inr ⟨hg', hlt⟩
  · rcases hb with hb | hb
    · exact h7 b hb
    · omega
  · rcases hb with hb | hb
    · have := h8 b hb; simp; omega
    · simpa using hb.2
  · rcases hb with hb | hb
    · exact ⟨.inl hb, by have := h8 b hb; simp; omega⟩
    · exact ⟨.inr hb.1, by simpa using hb.2⟩
theorem Grw.trans2 {T T' T'' : Nat → Prop} {w w' w'' : World} (h : Grw T T' w w') (hs : w.heap.size ≤ w'.heap.size) (k : Grw T' T'' w' w'') : Grw T T'' w w'' := h.trans hs k
set_option maxRecDepth 100000 in
/-- the writer takes a number. -/
theorem writeIntC_any {W : World} {B0 g : Nat} {T : Nat → Prop} {l : List UInt8} {lg : Bool} (h : WrC W B0 g T l lg) (hB : B0 ≤ W.heap.size) (hl : l.length ≤ 80000000) {n : Int} (hn : i64 n) :
    Calls Tryz.prog 66 #[.pointer (some ⟨g, 0, none⟩), .int .i64 n] W (Wro W B0 g T (l ++ vint n) lg) := by
  have hlt := tnd_lt hn
  have HV : Hid (vint n = vb 10 (tnd n)) := rfl
  have hgl := h.lt
  go_enter Tryz.func66, Tryz.ntmps66
  go_wp2_with fail
  refine (turned_any hn).mono ?_
  rintro e w1 ⟨rfl, rfl⟩
  generalize tnd n = u0 at hlt HV ⊢
  have hu0 : u0 < 128 ^ 11 := Nat.lt_of_lt_of_le hlt (by decide)
  go_wp2_with fail
  go_loopw [4] (fun u wr => ∃ (k uu : Nat) (dn : List UInt8) (T' : Nat → Prop), k ≤ 10 ∧ u = .int .u64 (uu : Int) ∧ uu < 18446744073709551616 ∧ uu < 128 ^ (11 - k) ∧ dn.length = k ∧ Hid (vint n = dn ++ vb (10 - k) uu) ∧ WrC wr B0 g T' (l ++ dn) lg ∧ Fr T W wr ∧ Grw T T' W wr) (fun u _ => (intOf u).toNat)
  case atStart => exact ⟨0, u0, [], T, by omega, rfl, hlt, hu0, rfl, HV, by simpa using h, Fr.refl _ _, Grw.refl h.bnd⟩
  case round =>
    obtain ⟨k, uu, dn, T', hk, rfl, hul, hub, hdl, HD, hw, hfw, hgw⟩ := hrel
    have hlen : (l ++ dn).length ≤ 90000000 := by simp; omega
    have hBw := Nat.le_trans hB hfw.size
    have hglw := hw.lt
    by_cases h128 : 128 ≤ uu
    · have h10 : k < 10 := by
        rcases Nat.lt_or_ge k 10 with h | h
        · exact h
        · obtain rfl : k = 10 := by omega
          simp at hub
          omega
      have hbd : uu / 128 < 128 ^ (11 - (k + 1)) := Nat.div_lt_of_lt_mul (by rw [Nat.mul_comm, ← Nat.pow_succ, show (11 - (k + 1)).succ = 11 - k by omega]; exact hub)
      have HD2 : Hid (vint n = (dn ++ [ob (uu % 128 + 128)]) ++ vb (10 - (k + 1)) (uu / 128)) := by
        unfold Hid
        rw [HD.out, show 10 - k = (10 - (k + 1)) + 1 by omega, vb_more h128, List.append_assoc]
        rfl
      have HO := Lib.hid (or128 uu)
      go_wp2_with fail
      rw [HO.out]
      refine (putC_any hw hBw hlen _).mono ?_
      rintro e w2 ⟨rfl, T2, hw2, hf2, hg2⟩
      go_wp2_with fail
      exact ⟨⟨k + 1, uu / 128, dn ++ [ob (uu % 128 + 128)], T2, by omega, by simp, by omega, hbd, by simp [hdl], HD2, by rw [← List.append_assoc]; exact hw2, hfw.grw hgw hf2, hgw.trans hfw.size hg2⟩, by simp [intOf]; omega⟩
    · have HO : Hid (Value.int .u8 (uu : Int) = bv (ob uu)) := by
        have := ob_one uu (by omega)
        simpa [Hid] using this.symm
      have HD2 : Hid (vint n = dn ++ [ob uu]) := by unfold Hid; rw [HD.out, vb_last (by omega)]
      go_wp2_with fail
      rw [HO.out]
      refine (putC_any hw hBw hlen _).mono ?_
      rintro e w2 ⟨rfl, T2, hw2, hf2, hg2⟩
      go_wp2_with fail
      go_end0
      exact ⟨rfl, T2, by rw [HD2.out, ← List.append_assoc]; exact hw2, hfw.grw hgw hf2, hgw.trans hfw.size hg2⟩
def vbool (b : Bool) : List UInt8 := [if b then 1 else 0]
theorem writeBoolC_any {W : World} {B0 g : Nat} {T : Nat → Prop} {l : List UInt8} {lg : Bool} (h : WrC W B0 g T l lg) (hB : B0 ≤ W.heap.size) (hl : l.length ≤ 80000000) (b : Bool) :
    Calls Tryz.prog 59 #[.pointer (some ⟨g, 0, none⟩), .bool b] W (Wro W B0 g T (l ++ vbool b) lg) := by
  have hgl := h.lt
  cases b with
  | true =>
    go_enter Tryz.func59, Tryz.ntmps59
    go_wp2_with fail
    refine (putC_any h hB (by omega) 1).mono ?_
    rintro e w3 ⟨rfl, h3⟩
    go_wp2_with fail
    go_end0
    exact ⟨rfl, h3⟩
  | false =>
    go_enter Tryz.func59, Tryz.ntmps59
    go_wp2_with fail
    refine (putC_any h hB (by omega) 0).mono ?_
    rintro e w3 ⟨rfl, h3⟩
    go_wp2_with fail
    go_end0
    exact ⟨rfl, h3⟩
def intsB (l : List Int) : List UInt8 := l.flatMap vint
theorem intsB_take (l : List Int) {k : Nat} (h : k < l.length) : intsB (l.take (k + 1)) = intsB (l.take k) ++ vint (at0 l k) := by
  unfold intsB
  rw [List.take_succ_eq_append_getElem h, at0_lt h, List.flatMap_append, show [l[k]].flatMap vint = vint l[k] ++ [] from rfl, List.append_nil]
theorem intsB_len (l : List Int) : (intsB l).length ≤ 11 * l.length := by
  induction l with
  | nil => simp [intsB]
  | cons x l ih =>
    have := vint_len x
    have e : intsB (x :: l) = vint x ++ intsB l := rfl
    rw [e, List.length_append, List.length_cons]
    omega
set_option maxRecDepth 100000 in
/-- numbers, one behind the other; their slice lies outside what the writer owns. -/
theorem intsC_any {W : World} {B0 g : Nat} {T : Nat → Prop} {l : List UInt8} {lg : Bool} (h : WrC W B0 g T l lg) (hB : B0 ≤ W.heap.size) (hl : l.length ≤ 70000000) {A : Option Addr} {n c : Nat} {ns : List Int} (hs : SlI W A n c ns) (hn : n ≤ 1000) (hA : ∀ b o, 0 < n → A = some ⟨b, o, none⟩ → ¬ T b) :
    Calls Tryz.prog 19 #[.pointer (some ⟨g, 0, none⟩), .slice A n c] W (Wro W B0 g T (l ++ intsB ns) lg) := by
  have hnl := hs.2.1
  have hgl := h.lt
  go_enter Tryz.func19, Tryz.ntmps19
  go_wp2_with fail
  go_loopw [8] (fun i wr => ∃ (k : Nat) (T' : Nat → Prop), k ≤ n ∧ i = .int .i64 k ∧ WrC wr B0 g T' (l ++ intsB (ns.take k)) lg ∧ Fr T W wr ∧ Grw T T' W wr) (fun i _ => n - (intOf i).toNat)
  case atStart => exact ⟨0, T, by omega, rfl, by simpa [intsB] using h, Fr.refl _ _, Grw.refl h.bnd⟩
  case round =>
    obtain ⟨k, T', hk, rfl, hw, hfw, hgw⟩ := hrel
    have hBw := Nat.le_trans hB hfw.size
    have hglw := hw.lt
    by_cases hlt : k < n
    · have hsw : SlI wr A n c ns := ⟨hs.1.fr hfw hA, hs.2⟩
      obtain ⟨b, o, rfl, hb, hck⟩ := hsw.at_ hlt
      have hi := hs.rng k
      have HT := Lib.hid (intsB_take ns (show k < ns.length by omega))
      have hll := intsB_len (ns.take k)
      rw [List.length_take] at hll
      generalize at0 ns k = x at hck hi HT
      go_wp2_with fail
      refine (writeIntC_any hw hBw (by simp only [List.length_append]; omega) hi).mono ?_
      rintro e w3 ⟨rfl, T2, h3, hf3, hg3⟩
      go_wp2_with fail
      exact ⟨⟨k + 1, T2, by omega, by go_num, by rw [HT.out, ← List.append_assoc]; exact h3, hfw.grw hgw hf3, hgw.trans hfw.size hg3⟩, by simp [intOf]; omega⟩
    · obtain rfl : k = n := by omega
      have HT : Hid (ns.take k = ns) := List.take_of_length_le (by omega)
      rw [HT.out] at hw
      go_wp2_with fail
      go_end0
      exact ⟨rfl, T', hw, hfw, hgw⟩
/-- a row's copy, of longer rows. -/
theorem cloneL_any {w : World} {A : Option Addr} {n c : Nat} {l : List UInt8} (h : SlB w A n c l) (hn : n ≤ 90000000) :
    Calls Tryz.prog 80 #[.slice A n c] w fun e w' => ∃ v, e = .returned v ∧ w'.ownsRow w.heap.size 5 1 v n (l.map bv) ∧ Below w.heap.size w w' := by
  obtain ⟨i0, hi0, hz0, hz1, hz2⟩ := info_parts byte_info
  cases A with
  | none =>
    have hc : c = 0 := h.1.2.2.2.1 rfl
    have hn0 : n = 0 := by have := h.1.2.1; omega
    subst hc hn0
    obtain rfl : l = [] := List.eq_nil_of_length_eq_zero h.2
    have hnil := fun w => Lib.run_eql_slice_nil (P := Tryz.prog) w 36 5 none 0 0 0 0 Tryz.underlying36
    go_enter Tryz.func80, Tryz.ntmps80
    go_wp2_with fail
    go_ret
    exact ⟨_, rfl, World.ownsRow_nil _ _ _ _, Below.refl _ _⟩
  | some ad =>
    have hb0 := (Below.refl w.heap.size w).alloc (Nat.le_refl _) (.cells #[] 5)
    have hown0 := own_lit w 5 1
    have hl0 := h.keep hb0
    have hnews : ∀ (j : Nat) (u : Value), (l.map bv)[j]? = some u → (w.alloc (.cells #[] 5)).cell? (ad.add j) = some u := by
      intro j u hu
      have hlt : j < n := by
        have := (List.getElem?_eq_some_iff.1 hu).1
        rw [List.length_map, h.2] at this
        exact this
      obtain ⟨b, o, e, _, hc⟩ := hl0.1.at_ (by omega)
      cases e
      rw [add_none]
      exact hc j u hu
    have hlen := h.2
    have hnil := fun w => Lib.run_eql_slice_nil (P := Tryz.prog) w 36 5 (some ad) n c 0 0 Tryz.underlying36
    go_enter Tryz.func80, Tryz.ntmps80
    go_wp2_with (at_builtin; refine wpList_append_own_at _ (by rfl) _ _ 36 (by rfl) w.heap.size 5 i0 _ 1 1 Tryz.underlying36 hi0 hz0 hz1 hz2 rfl (by decide) _ 0 _ (by rfl) hown0 ad n c (l.map bv) (by rfl) (by simp; omega) hnews (bv_cell l) (by unfold maxLen; omega) (by omega) (by simp) ?_; intro v' w1 hown1 hg1 hnil1 hat1)
    go_ret
    exact ⟨v', rfl, by rw [Nat.zero_add, List.nil_append] at hown1; exact hown1, hb0.grown hg1 (by simp) (fun k e => by cases e; exact Nat.le_refl _)⟩
theorem bytesC_any {W : World} {B0 g : Nat} {T : Nat → Prop} {l : List UInt8} {lg : Bool} (h : WrC W B0 g T l lg) (hl : l.length ≤ 90000000) :
    Calls Tryz.prog 24 #[.pointer (some ⟨g, 0, none⟩)] W fun e w' => ∃ v, e = .returned v ∧ w'.ownsRow W.heap.size 5 1 v l.length (l.map bv) ∧ Below W.heap.size W w' := by
  have hgl := h.lt
  obtain ⟨⟨v, h1, h4, h5⟩, h6, h7, h8⟩ := h
  have c0 : W.cell? ⟨g, 0, none⟩ = some v := h1.cell 0
  obtain ⟨A', c', rfl, hs, -⟩ := SlB.of_own h4
  go_enter Tryz.func24, Tryz.ntmps24
  go_wp2_with fail
  refine (cloneL_any hs hl).mono ?_
  rintro e w2 ⟨v2, rfl, hown2, hb2⟩
  go_wp2_with fail
  go_ret
  exact ⟨v2, rfl, hown2, hb2⟩
end Go.Proofs.YtahjnonkhbpnpaaGreat
/- From a law's walk to its row: the law returns true and leaves all that was there as it was; and how arguments are read. -/
namespace Go.Proofs.YtahjnonkhbpnpaaGreat
open Go.ChangeShapes Go.WideShapes Go.ChangeAt Go.RowKit Go.Joins
open Go.ChangeMaps (open_string shut_string)

theorem Tryz.own : ownKnob Tryz.prog.godebug = none := by kernel_rfl
theorem Tryz.laidOut : laidOutB Tryz.prog = true := by kernel_rfl
theorem Tryz.u_bool : Tryz.prog.underlying 4 = some .bool := by kernel_rfl

theorem below_trodAll {P : Program} (hlo : laidOutB P = true) {H : Type} {enc : TypeId × Value → H} {W W' : World} (hb : Below W.heap.size W W') : ∀ {ts : List TypeId} {vs : List Value} {ds : List (DataW H)} {ps : List MemPlace},
    (ts.all fun t => P.readableRec t && decide (t < P.types.size)) = true → DataW.TrodAll enc P W 0 (fun _ => true) true ts vs ds ps → DataW.TrodAll enc P W' 0 (fun b => decide (b < W.heap.size)) true ts vs ds ps
  | [], vs, ds, ps, _, h => by
    obtain ⟨rfl, rfl, rfl⟩ := trodAll_nil h
    exact trodAll_mk0
  | t :: ts, vs, ds, ps, ht, h => by
    obtain ⟨v, vs', d, ds', p, q, rfl, rfl, rfl, h0, h1⟩ := trodAll_cons h
    rw [List.all_cons, Bool.and_eq_true, Bool.and_eq_true, decide_eq_true_eq] at ht
    have lt0 : ∀ x ∈ p, x.block < W.heap.size := by obtain ⟨m, hm⟩ := h0; exact DataW.trod_lt m _ _ _ hm
    exact trodAll_cons_mk (Below.trod hlo ht.1.1 ht.1.2 h0 hb lt0) (below_trodAll hlo hb ht.2 h1)
theorem trodAll_len {P : Program} {H : Type} {enc : TypeId × Value → H} {W : World} : ∀ {ts : List TypeId} {vs : List Value} {ds : List (DataW H)} {ps : List MemPlace}, DataW.TrodAll enc P W 0 (fun _ => true) true ts vs ds ps → ds.length = ts.length
  | [], vs, ds, ps, h => by
    obtain ⟨rfl, rfl, rfl⟩ := trodAll_nil h
    rfl
  | t :: ts, vs, ds, ps, h => by
    obtain ⟨v, vs', d, ds', p, q, rfl, rfl, rfl, h0, h1⟩ := trodAll_cons h
    rw [List.length_cons, List.length_cons, trodAll_len h1]

set_option maxRecDepth 100000 in
theorem law_lifted (f : FuncId) (fn : Func) (s : ChangeSpec) (os : Os) (started : os.Started) (H : Type) (enc : TypeId × Value → H) (hvars : s.vars = [])
    (hfn : Tryz.checked.prog.funcs[f]? = some fn) (hini : Tryz.checked.prog.inits.idxOf? f = none) (hres : fn.resultTypes.toList = [4]) (hrn : fn.resultTypes.size = 1)
    (hpar : (fn.params.toList.all fun t => Tryz.prog.readableRec t && decide (t < Tryz.prog.types.size)) = true)
    (hspec : ∀ ds : List (DataW H), ds.length = fn.params.toList.length → s.fn H ds = { results := [.lit (.bool true)], args := ds })
    (witness : ∃ (w : World) (tape : Tape) (i : Input), w.os = os ∧ (w.forCall tape i).Shaped Tryz.checked.prog ∧ i.vars = [] ∧ Input.okWide Tryz.checked.prog (w.forCall tape i) .any w.heap.size f i ∧
      s.pre6 enc Tryz.checked.prog fn [] false (w.forCall tape i).memory i.args ∧ ({} : Assume).holds Tryz.checked.prog (lone (Frame.enter Tryz.checked.prog f i.args .normal) [] (w.forCall tape i)))
    (contract : ∀ (W : World) (base : Nat) (args : Array Value) (ds : List (DataW H)) (ps : List MemPlace),
      (∀ (j : Nat) t v, fn.params[j]? = some t → args[j]? = some v → Value.okWide Tryz.prog W .any base t v) → DataW.TrodAll enc Tryz.prog W 0 (fun _ => true) true fn.params.toList args.toList ds ps →
      Calls Tryz.prog f args W fun e W' => e = .returned (.bool true) ∧ Below W.heap.size W W') :
    ReturnsInHanded {} Tryz.checked os f .any (s.pre6 enc Tryz.prog fn [] false) (s.post enc Tryz.prog fn false true false false) := by
  refine returnsInHanded_of_change (C := Tryz.checked) Tryz.own started hini hfn witness ?_
  intro W base args ds gs before hval hW _ _
  have hW' := hW
  obtain ⟨p, q, hA, hV, rfl, hfz, hnd⟩ := hW
  rw [hvars] at hV
  obtain ⟨rfl, rfl⟩ := trodVars_none hV
  refine (contract W base args ds p hval hA).mono fun e W' ⟨he, bel⟩ => ?_
  subst he
  have hlen : ds.length = fn.params.toList.length := trodAll_len hA
  have hsp := hspec ds hlen
  refine ⟨_, rfl, ds, [], _, [], p, [], hW', ?_, ?_, ?_, bel.frame _, fun h => by cases h⟩
  · rw [List.append_nil, hsp, hres, hrn]; exact trodAll_mk1 (shut_bool Tryz.u_bool _)
  · rw [List.append_nil, hsp]; exact below_trodAll Tryz.laidOut bel hpar hA
  · rw [List.append_nil, hsp, hvars]; rfl

/-! ### Arguments read -/
section
variable {H : Type} {enc : TypeId × Value → H} {P : Program} {W : World}
theorem i64_of_wf {n : Int} (h : (Lit.int .i64 n).wf = true) : i64 n := by
  have h1 : IntKind.i64.min = -9223372036854775808 := rfl
  have h2 : IntKind.i64.max = 9223372036854775807 := rfl
  simp only [Lit.wf, Bool.and_eq_true, decide_eq_true_eq, h1, h2] at h
  exact h
theorem trod_SlI {t e : TypeId} (ht : P.underlying t = some (.slice e)) (he : P.underlying e = some (.int .i64)) (hC : P.cellsOf e = 1) {fuel : Nat} {v : Value} {x : DataW H × List MemPlace}
    (h : DataW.trod enc P W 0 (fun _ => true) true fuel t [v] = some x) : ∃ A n c l, v = .slice A n c ∧ SlI W A n c l := by
  rcases open_ints ht he hC h with ⟨hcs, _⟩ | ⟨a, len, cap, zs, hcs, _, hl, hm, hz, _, hcell, hwz⟩
  · cases hcs
    exact ⟨none, 0, 0, [], rfl, SlI.nil W⟩
  · cases hcs
    refine ⟨some a, len, cap, zs.take len, rfl, ⟨⟨by rw [List.length_map, List.length_take]; simp at hz; omega, hl, hm, (fun e => by cases e), fun hn => ?_⟩, by rw [List.length_take]; simp at hz; omega, fun n hn => i64_of_wf (hwz n (List.mem_of_mem_take hn))⟩⟩
    have hz' : zs.length = cap := by simpa using hz
    have h0 := hcell 0 (by omega)
    obtain ⟨b, o, spot⟩ := a
    have hspot : spot = none := by simpa [Addr.add] using World.cell?_spot h0
    subst hspot
    refine ⟨b, o, rfl, ?_, fun j u hu => ?_⟩
    · have := World.block_lt_of_cell? W _ h0
      simpa [Addr.add] using this
    · have hj : j < len := by
        have := (List.getElem?_eq_some_iff.1 hu).1
        rw [List.length_map, List.length_take] at this
        omega
      have hc := hcell j (by omega)
      have hadd : (⟨b, o, none⟩ : Addr).add j = ⟨b, o + j, none⟩ := add_none b o j
      rw [hadd] at hc
      rw [hc, ← hu]
      simp [hj, List.getD, List.getElem?_eq_getElem (show j < zs.length by omega)]
theorem arg_SlI {r : Reach} {base : Nat} {t e : TypeId} (ht : P.underlying t = some (.slice e)) (he : P.underlying e = some (.int .i64)) (hC : P.cellsOf e = 1) {v : Value} {d : DataW H} {p : List MemPlace} (hv : Value.okWide P W r base t v)
    (h : DataW.Trod enc P W 0 (fun _ => true) true t v d p) : ∃ A n c l, v = .slice A n c ∧ SlI W A n c l := by
  obtain ⟨a, len, cap, rfl⟩ := okWide_slice ht hv
  obtain ⟨fuel, hf⟩ := h
  exact trod_SlI ht he hC (fuel := fuel) (by simpa [Value.cells] using hf)
theorem arg_int {r : Reach} {base : Nat} {t : TypeId} (ht : P.underlying t = some (.int .i64)) {v : Value} {d : DataW H} {p : List MemPlace} (hv : Value.okWide P W r base t v)
    (h : DataW.Trod enc P W 0 (fun _ => true) true t v d p) : ∃ n, v = .int .i64 n ∧ i64 n := by
  obtain ⟨n, rfl, _, _, wn⟩ := open_int ht hv h
  exact ⟨n, rfl, i64_of_wf wn⟩
theorem arg_int2 {r : Reach} {base : Nat} {t e : TypeId} (ht : P.underlying t = some (.array 2 e)) (he : P.underlying e = some (.int .i64)) (hC : P.cellsOf e = 1) (hC2 : P.cellsOf t = 2) {v : Value} {d : DataW H} {p : List MemPlace} (hv : Value.okWide P W r base t v)
    (h : DataW.Trod enc P W 0 (fun _ => true) true t v d p) : ∃ x y, v = .agg #[.int .i64 x, .int .i64 y] ∧ i64 x ∧ i64 y := by
  simp only [Value.okWide, ht] at hv
  obtain ⟨cs, rfl, hsz, _⟩ := hv
  obtain ⟨c0, c1, rfl⟩ := array2 (hsz.trans hC2)
  obtain ⟨fuel, hf⟩ := h
  obtain ⟨xs, m, _, _, _, hxl, hx⟩ := DataW.trod_array ht hf
  have h0 := hx 0 (by omega)
  have h1 := hx 1 (by omega)
  rw [hC] at h0 h1
  obtain ⟨n0, e0, _, w0⟩ := DataW.trod_int he (h0.trans (List.getElem?_eq_getElem (by omega)))
  obtain ⟨n1, e1, _, w1⟩ := DataW.trod_int he (h1.trans (List.getElem?_eq_getElem (by omega)))
  simp [Value.cells] at e0 e1
  subst e0 e1
  exact ⟨n0, n1, rfl, i64_of_wf w0, i64_of_wf w1⟩
/-- chunks of one size, chosen one by one, as one list. -/
theorem chunks {p : Nat → List Value → Prop} {size : Nat} : ∀ (len : Nat), (∀ i, i < len → ∃ c, p i c ∧ c.length = size) → ∃ xs : List Value, xs.length = len * size ∧ ∀ i, i < len → p i ((xs.drop (i * size)).take size)
  | 0, _ => ⟨[], by simp, fun i hi => by omega⟩
  | len + 1, h => by
    obtain ⟨xs, hl, hx⟩ := chunks len (fun i hi => h i (by omega))
    obtain ⟨c, hp, hc⟩ := h len (by omega)
    refine ⟨xs ++ c, by rw [List.length_append, hl, hc, Nat.add_mul, Nat.one_mul], fun i hi => ?_⟩
    rcases Nat.lt_or_ge i len with hlt | hge
    · have h1 : (i + 1) * size ≤ len * size := Nat.mul_le_mul_right _ hlt
      rw [Nat.add_mul, Nat.one_mul] at h1
      have : ((xs ++ c).drop (i * size)).take size = (xs.drop (i * size)).take size := by
        rw [List.drop_append_of_le_length (by omega), List.take_append_of_le_length (by rw [List.length_drop]; omega)]
      rw [this]
      exact hx i hlt
    · obtain rfl : i = len := by omega
      rw [← hl, List.drop_left, List.take_of_length_le (by omega)]
      exact hp
/-- a slice of whatever elements: its cells in one row, each element read. -/
theorem trod_Sl {t e size : TypeId} (ht : P.underlying t = some (.slice e)) (hC : P.cellsOf e = size) (hs : 0 < size) {fuel : Nat} {v : Value} {x : DataW H × List MemPlace}
    (h : DataW.trod enc P W 0 (fun _ => true) true fuel t [v] = some x) : ∃ A n c cs, v = .slice A n c ∧ Sl W A n c size cs ∧ ∀ i, i < n → ∃ fuel' y, DataW.trod enc P W 0 (fun _ => true) true fuel' e ((cs.drop (i * size)).take size) = some y := by
  rcases Go.Deep.open_slice ht h with ⟨hcs, _⟩ | ⟨a, len, cap, m, n, D, Pl, hcs, _, hl, hm, hmm, _, hx⟩
  · cases hcs
    exact ⟨none, 0, 0, [], rfl, Sl.nil W size, fun i hi => by omega⟩
  · cases hcs
    rw [hC] at hx
    have hm' : m = cap := by simpa using hmm
    subst hm'
    obtain ⟨xs, hxl, hxp⟩ := chunks (p := fun i c => W.cells? 0 (a.add (i * size)) size = some c ∧ DataW.trod enc P W 0 (fun _ => true) true n e c = some (D i, Pl i)) (size := size) len (fun i hi => by
      obtain ⟨c, h1, h2⟩ := hx i (by omega)
      exact ⟨c, ⟨h1, h2⟩, (World.cells?_some h1).2.1⟩)
    refine ⟨some a, len, m, xs, rfl, ⟨hxl, hl, hm, (fun e => by cases e), fun hn => ?_⟩, fun i hi => ⟨n, _, (hxp i hi).2⟩⟩
    have hat : ∀ j u, xs[j]? = some u → W.cell? (a.add j) = some u := fun j u hu => by
      have hj : j < len * size := by rw [← hxl]; exact (List.getElem?_eq_some_iff.1 hu).1
      have hi : j / size < len := Nat.div_lt_of_lt_mul (by rw [Nat.mul_comm]; exact hj)
      have hr : j % size < size := Nat.mod_lt _ hs
      have hdm : j / size * size + j % size = j := by rw [Nat.mul_comm]; exact Nat.div_add_mod j size
      obtain ⟨_, _, hcell⟩ := World.cells?_some (hxp (j / size) hi).1
      have hc := hcell (j % size) hr
      rw [Go.Deep.add_add, hdm, List.getElem?_take, if_pos hr, List.getElem?_drop, hdm] at hc
      rw [hc]; exact hu
    have h0l : 0 < xs.length := by rw [hxl]; exact Nat.mul_pos hn hs
    have h0 := hat 0 (xs[0]'h0l) (List.getElem?_eq_getElem h0l)
    obtain ⟨b, o, spot⟩ := a
    have hspot : spot = none := by simpa [Addr.add] using World.cell?_spot h0
    subst hspot
    refine ⟨b, o, rfl, ?_, fun j u hu => ?_⟩
    · have := World.block_lt_of_cell? W _ h0
      simpa [Addr.add] using this
    · have hadd : (⟨b, o, none⟩ : Addr).add j = ⟨b, o + j, none⟩ := add_none b o j
      rw [← hadd]; exact hat j u hu
/-- a struct's field: its cells, read. -/
theorem trod_field {t : TypeId} {fs : Array Field} (hu : P.underlying t = some (.struct fs)) {fuel : Nat} {cs : List Value} {x : DataW H × List MemPlace} (h : DataW.trod enc P W 0 (fun _ => true) true fuel t cs = some x)
    (i : Nat) (T off sz : Nat) (hi : (fs[i]?).map (fun f => (f.type, f.offset)) = some (T, off)) (hC : P.cellsOf T = sz) : ∃ n y, DataW.trod enc P W 0 (fun _ => true) true n T ((cs.drop off).take sz) = some y := by
  obtain ⟨xs, n, _, _, _, hxl, hg⟩ := DataW.trod_struct hu h
  cases hf : fs[i]? with
  | none => rw [hf] at hi; cases hi
  | some f =>
    rw [hf] at hi
    simp only [Option.map_some, Option.some.injEq, Prod.mk.injEq] at hi
    obtain ⟨rfl, rfl⟩ := hi
    have hlt : i < xs.length := by rw [hxl]; exact (Array.getElem?_eq_some_iff.1 hf).1
    have := hg i f hf
    rw [hC, List.getElem?_eq_getElem hlt] at this
    exact ⟨n, _, this⟩
theorem trod_slice_one {t e : TypeId} (ht : P.underlying t = some (.slice e)) {fuel : Nat} {v : Value} {x : DataW H × List MemPlace} (h : DataW.trod enc P W 0 (fun _ => true) true fuel t [v] = some x) : v.oneCell' = true := by
  rcases DataW.trod_slice ht h with ⟨hcs, _⟩ | ⟨a, len, cap, elems, rest, n, _, hcs, _⟩
  · cases hcs; rfl
  · cases hcs; rfl
theorem trod_int_one {t : TypeId} {k : IntKind} (ht : P.underlying t = some (.int k)) {fuel : Nat} {v : Value} {x : DataW H × List MemPlace} (h : DataW.trod enc P W 0 (fun _ => true) true fuel t [v] = some x) : ∃ n, v = .int k n ∧ (Lit.int k n).wf = true := by
  obtain ⟨n, e, _, wf⟩ := DataW.trod_int ht h
  cases e
  exact ⟨n, rfl, wf⟩
end
end Go.Proofs.YtahjnonkhbpnpaaGreat
/- A slice of structs, read (SlG): its cells are the elements' cells in a row; and how such an argument is read. -/
namespace Go.Proofs.YtahjnonkhbpnpaaGreat
open Go.ChangeShapes Go.WideShapes Go.ChangeAt Go.RowKit Go.Joins
section
variable {α : Type} {w w' : World} {A : Option Addr} {n c sz : Nat} {f : α → List Value} {l : List α}
def atD (d : α) (l : List α) (k : Nat) : α := l.getD k d
theorem atD_lt {d : α} {k : Nat} (h : k < l.length) : atD d l k = l[k] := by simp [atD, List.getD, h]
theorem take_snocG (d : α) (l : List α) (k : Nat) (h : k < l.length) : l.take (k + 1) = l.take k ++ [atD d l k] := by
  rw [List.take_succ_eq_append_getElem h, atD_lt h]
theorem atD_mem {d : α} {k : Nat} (h : k < l.length) : atD d l k ∈ l := by rw [atD_lt h]; exact List.getElem_mem _
/-- a slice of structs of sz cells each -/
def SlG (w : World) (A : Option Addr) (n c sz : Nat) (f : α → List Value) (l : List α) : Prop := Sl w A n c sz (l.flatMap f) ∧ l.length = n ∧ ∀ x ∈ l, (f x).length = sz
theorem SlG.keep (h : SlG w A n c sz f l) (hb : Below w.heap.size w w') : SlG w' A n c sz f l := ⟨h.1.keep hb, h.2⟩
theorem SlG.fr {S : Nat → Prop} (h : SlG w A n c sz f l) (hb : Fr S w w') (hS : ∀ b o, 0 < n → A = some ⟨b, o, none⟩ → ¬ S b) : SlG w' A n c sz f l := ⟨h.1.fr hb hS, h.2⟩
theorem SlG.nil (w : World) (sz : Nat) (f : α → List Value) : SlG w none 0 0 sz f [] := ⟨Sl.nil w sz, rfl, fun x h => by cases h⟩
theorem SlG.len (h : SlG w A n c sz f l) : n ≤ 9223372036854775807 := h.1.len_le
theorem flat_get (d : α) (l : List α) (hf : ∀ x ∈ l, (f x).length = sz) (k j : Nat) (hk : k < l.length) (hj : j < sz) : (l.flatMap f)[k * sz + j]? = (f (atD d l k))[j]? := by
  induction l generalizing k with
  | nil => simp at hk
  | cons x l ih =>
    have hx := hf x (by simp)
    cases k with
    | zero =>
      rw [List.flatMap_cons, Nat.zero_mul, Nat.zero_add, List.getElem?_append_left (by omega)]
      simp [atD]
    | succ k =>
      rw [List.flatMap_cons, List.getElem?_append_right (by rw [hx, Nat.add_mul]; omega), hx, show (k + 1) * sz + j - sz = k * sz + j by rw [Nat.add_mul]; omega, ih (fun y hy => hf y (by simp [hy])) k (by simpa using hk)]
      simp [atD]
theorem SlG.at_ (d : α) (h : SlG w A n c sz f l) {k : Nat} (hk : k < n) : ∃ b o, A = some ⟨b, o, none⟩ ∧ b < w.heap.size ∧ ∀ j u, (f (atD d l k))[j]? = some u → w.cell? ⟨b, o + k * sz + j, none⟩ = some u := by
  obtain ⟨b, o, e, hb, hc⟩ := h.1.at_ (by omega)
  refine ⟨b, o, e, hb, fun j u hu => ?_⟩
  have hl := h.2.1
  have hj : j < sz := by
    have h1 := (List.getElem?_eq_some_iff.1 hu).1
    rw [h.2.2 _ (atD_mem (by omega))] at h1
    exact h1
  rw [Nat.add_assoc]
  exact hc _ u (by rw [flat_get d l h.2.2 k j (by omega) hj]; exact hu)
theorem SlG.of_own {base : Nat} {e : TypeId} {v : Value} {n : Nat} {l : List α} (h : w.ownsRow base e sz v n (l.flatMap f)) (hf : ∀ x ∈ l, (f x).length = sz) (hl : l.length = n) : ∃ A c, v = .slice A n c ∧ SlG w A n c sz f l ∧ ∀ b o, A = some ⟨b, o, none⟩ → base ≤ b := by
  obtain ⟨A, c, hv, hs, hb⟩ := Sl.of_own h
  exact ⟨A, c, hv, ⟨hs, hl, hf⟩, hb⟩
theorem flat_len (l : List α) (hf : ∀ x ∈ l, (f x).length = sz) : (l.flatMap f).length = l.length * sz := by
  induction l with
  | nil => simp
  | cons x l ih =>
    rw [List.flatMap_cons, List.length_append, hf x (by simp), ih (fun y hy => hf y (by simp [hy])), List.length_cons, Nat.add_mul]
    omega
end
/-- chunks of sz cells, each an element's, as a list of elements. -/
theorem rows_of {α : Type} {f : α → List Value} {ok : α → Prop} {sz : Nat} : ∀ (n : Nat) (cs : List Value), cs.length = n * sz → (∀ i, i < n → ∃ a, (cs.drop (i * sz)).take sz = f a ∧ ok a) → ∃ l : List α, l.length = n ∧ cs = l.flatMap f ∧ ∀ a ∈ l, ok a
  | 0, cs, hl, _ => ⟨[], rfl, by simpa using hl, fun a h => by cases h⟩
  | n + 1, cs, hl, h => by
    rw [Nat.add_mul, Nat.one_mul] at hl
    obtain ⟨a, ha, hoa⟩ := h 0 (by omega)
    rw [Nat.zero_mul, List.drop_zero] at ha
    obtain ⟨l, h1, h2, h3⟩ := rows_of (f := f) (ok := ok) (sz := sz) n (cs.drop sz) (by rw [List.length_drop]; omega) (fun i hi => by
      obtain ⟨b, hb, hob⟩ := h (i + 1) (by omega)
      rw [Nat.add_mul, Nat.one_mul] at hb
      exact ⟨b, by rw [List.drop_drop, Nat.add_comm]; exact hb, hob⟩)
    exact ⟨a :: l, by simp [h1], by rw [List.flatMap_cons, ← ha, ← h2, List.take_append_drop], fun b hb => by
      rcases List.mem_cons.1 hb with rfl | hb
      · exact hoa
      · exact h3 b hb⟩
section
variable {H : Type} {enc : TypeId × Value → H} {P : Program} {W : World}
/-- a struct of ints alone: its cells. -/
theorem trod_ints_row {t tint : TypeId} {fs : Array Field} (hu : P.underlying t = some (.struct fs)) (hint : P.underlying tint = some (.int .i64)) (hC : P.cellsOf tint = 1) (k : Nat)
    (hfs : ∀ i, i < k → (fs[i]?).map (fun f => (f.type, f.offset)) = some (tint, i)) {fuel : Nat} {cs : List Value} {x : DataW H × List MemPlace} (hl : cs.length = k) (h : DataW.trod enc P W 0 (fun _ => true) true fuel t cs = some x) :
    ∃ zs : List Int, zs.length = k ∧ cs = zs.map (Value.int .i64) ∧ ∀ z ∈ zs, i64 z := by
  have hi : ∀ i, i < k → ∃ z, cs[i]? = some (.int .i64 z) ∧ i64 z := fun i hi => by
    obtain ⟨_, _, g⟩ := trod_field hu h i tint i 1 (hfs i hi) hC
    have hlt : i < cs.length := by omega
    have e : (cs.drop i).take 1 = [cs[i]] := by
      rw [List.drop_eq_getElem_cons hlt]
      rfl
    rw [e] at g
    obtain ⟨z, hz, wz⟩ := trod_int_one hint g
    exact ⟨z, by rw [List.getElem?_eq_getElem hlt, hz], i64_of_wf wz⟩
  have := rows_of (f := fun z => [Value.int .i64 z]) (ok := i64) (sz := 1) k cs (by omega) (fun i hik => by
    obtain ⟨z, hz, wz⟩ := hi i hik
    have hlt : i < cs.length := by omega
    refine ⟨z, ?_, wz⟩
    rw [Nat.mul_one, List.drop_eq_getElem_cons hlt]
    rw [List.getElem?_eq_getElem hlt] at hz
    rw [Option.some.inj hz]
    rfl)
  obtain ⟨zs, h1, h2, h3⟩ := this
  refine ⟨zs, h1, ?_, h3⟩
  rw [h2]
  clear h1 h2 h3
  induction zs with
  | nil => rfl
  | cons z zs ih => simp [List.flatMap_cons, ih]
theorem trod_SlG {α : Type} {f : α → List Value} {ok : α → Prop} {t e : TypeId} {sz : Nat} (ht : P.underlying t = some (.slice e)) (hC : P.cellsOf e = sz) (hs : 0 < sz)
    (hrd : ∀ (fuel : Nat) (cs : List Value) (x : DataW H × List MemPlace), cs.length = sz → DataW.trod enc P W 0 (fun _ => true) true fuel e cs = some x → ∃ a, cs = f a ∧ ok a)
    {fuel : Nat} {v : Value} {x : DataW H × List MemPlace} (h : DataW.trod enc P W 0 (fun _ => true) true fuel t [v] = some x) : ∃ A n c l, v = .slice A n c ∧ SlG W A n c sz f l ∧ ∀ a ∈ l, ok a := by
  obtain ⟨A, n, c, cs, rfl, hsl, he⟩ := trod_Sl ht hC hs h
  have hl := hsl.1
  have hch : ∀ i, i < n → ∃ a, (cs.drop (i * sz)).take sz = f a ∧ (ok a ∧ (f a).length = sz) := fun i hi => by
    obtain ⟨_, _, g⟩ := he i hi
    have hcl : ((cs.drop (i * sz)).take sz).length = sz := by
      rw [List.length_take, List.length_drop, hl]
      have : (i + 1) * sz ≤ n * sz := Nat.mul_le_mul_right _ hi
      rw [Nat.add_mul, Nat.one_mul] at this
      omega
    obtain ⟨a, ha, hoa⟩ := hrd _ _ _ hcl g
    exact ⟨a, ha, hoa, by rw [← ha, hcl]⟩
  obtain ⟨l, h1, h2, h3⟩ := rows_of n cs hl hch
  subst h2
  exact ⟨A, n, c, l, rfl, ⟨hsl, h1, fun a ha => (h3 a ha).2⟩, fun a ha => (h3 a ha).1⟩
theorem arg_SlG {α : Type} {f : α → List Value} {ok : α → Prop} {r : Reach} {base : Nat} {t e : TypeId} {sz : Nat} (ht : P.underlying t = some (.slice e)) (hC : P.cellsOf e = sz) (hs : 0 < sz)
    (hrd : ∀ (fuel : Nat) (cs : List Value) (x : DataW H × List MemPlace), cs.length = sz → DataW.trod enc P W 0 (fun _ => true) true fuel e cs = some x → ∃ a, cs = f a ∧ ok a)
    {v : Value} {d : DataW H} {p : List MemPlace} (hv : Value.okWide P W r base t v) (h : DataW.Trod enc P W 0 (fun _ => true) true t v d p) : ∃ A n c l, v = .slice A n c ∧ SlG W A n c sz f l ∧ ∀ a ∈ l, ok a := by
  obtain ⟨a, len, cap, rfl⟩ := okWide_slice ht hv
  obtain ⟨fuel, hf⟩ := h
  exact trod_SlG ht hC hs hrd (fuel := fuel) (by simpa [Value.cells] using hf)
/-- a struct of ints alone, by value. -/
theorem arg_ints_row {r : Reach} {base : Nat} {t tint : TypeId} {fs : Array Field} (hu : P.underlying t = some (.struct fs)) (hint : P.underlying tint = some (.int .i64)) (hC : P.cellsOf tint = 1) (k : Nat) (hk : P.cellsOf t = k)
    (hfs : ∀ i, i < k → (fs[i]?).map (fun f => (f.type, f.offset)) = some (tint, i)) {v : Value} {d : DataW H} {p : List MemPlace} (hv : Value.okWide P W r base t v) (h : DataW.Trod enc P W 0 (fun _ => true) true t v d p) :
    ∃ zs : List Int, zs.length = k ∧ v = .agg (zs.map (Value.int .i64)).toArray ∧ ∀ z ∈ zs, i64 z := by
  obtain ⟨cs, rfl, hsz⟩ := okWide_struct hu hv
  rw [hk] at hsz
  obtain ⟨fuel, hf⟩ := h
  obtain ⟨zs, h1, h2, h3⟩ := trod_ints_row hu hint hC k hfs (cs := cs.toList) (by simpa using hsz) hf
  exact ⟨zs, h1, by rw [← h2], h3⟩
end
end Go.Proofs.YtahjnonkhbpnpaaGreat
/- How a configuration is read: each struct's cells, what is known of them, and how an argument is read. Printed by wip/gen_cfg.py. -/
namespace Go.Proofs.YtahjnonkhbpnpaaGreat
open Go.ChangeShapes Go.WideShapes Go.ChangeAt Go.RowKit Go.Joins
theorem owns_le {w : World} {base : Nat} {e : TypeId} {sz : Nat} {v : Value} {n : Nat} {xs : List Value} (h : w.ownsRow base e sz v n xs) (k : Nat) (hk : v.ownBlock = some k) : base ≤ k := by
  rcases h.2 with ⟨rfl, _⟩ | ⟨g, cap, cur, rfl, hb, _⟩
  · cases hk
  · cases hk; exact hb
theorem app_below {wo w w' : World} {e : TypeId} {sz : Nat} {v : Value} {n : Nat} {xs : List Value} (hB : Below wo.heap.size wo w) (h : w.ownsRow wo.heap.size e sz v n xs) (hf : Fr (fun k => v.ownBlock = some k) w w') : Below wo.heap.size wo w' :=
  hB.trans (hf.below (fun k hk h' => by have := owns_le h k h'; omega) hB.size)
/-- a slice's head, and what it holds. -/
structure Hd (α : Type) where
  A : Option Addr
  c : Nat
  l : List α
def Hd.v {α : Type} (h : Hd α) : Value := .slice h.A h.l.length h.c
/-- how a type's cells are read. -/
structure Rd (P : Program) (t : TypeId) (α : Type) where
  sz : Nat
  f : α → List Value
  ok : World → α → Prop
  len : ∀ x, (f x).length = sz
  keep : ∀ {W W' : World} {x : α}, ok W x → Below W.heap.size W W' → ok W' x
  trod : ∀ {H : Type} {enc : TypeId × Value → H} {W : World} {fuel : Nat} {cs : List Value} {x : DataW H × List MemPlace}, cs.length = sz → DataW.trod enc P W 0 (fun _ => true) true fuel t cs = some x → ∃ a, cs = f a ∧ ok W a
theorem u_int : Tryz.prog.underlying 3 = some (.int .i64) := by kernel_rfl
theorem u_ints : Tryz.prog.underlying 29 = some (.slice 3) := by kernel_rfl
theorem c_int : Tryz.prog.cellsOf 3 = 1 := by kernel_rfl
def rdInt : Rd Tryz.prog 3 Int where
  sz := 1
  f z := [.int .i64 z]
  ok _ z := i64 z
  len _ := rfl
  keep h _ := h
  trod hl h := by
    rename_i cs _
    match cs, hl with
    | [v], _ =>
      obtain ⟨n, rfl, wn⟩ := trod_int_one u_int h
      exact ⟨n, rfl, i64_of_wf wn⟩
def rdBool : Rd Tryz.prog 4 Bool where
  sz := 1
  f b := [.bool b]
  ok _ _ := True
  len _ := rfl
  keep h _ := h
  trod hl h := by
    rename_i cs _
    match cs, hl with
    | [v], _ =>
      obtain ⟨b, e, _⟩ := DataW.trod_bool Tryz.u_bool h
      exact ⟨b, e, trivial⟩
def Hd.okI (W : World) (h : Hd Int) : Prop := SlI W h.A h.l.length h.c h.l
def rdInts : Rd Tryz.prog 29 (Hd Int) where
  sz := 1
  f h := [h.v]
  ok W h := h.okI W
  len _ := rfl
  keep h hb := SlI.keep h hb
  trod hl h := by
    rename_i cs _
    match cs, hl with
    | [v], _ =>
      obtain ⟨A, n, c, l, rfl, hs⟩ := trod_SlI u_ints u_int c_int h
      have := hs.2.1
      subst this
      exact ⟨⟨A, c, l⟩, rfl, hs⟩
def Hd.ok {P : Program} {α : Type} {e : TypeId} (r : Rd P e α) (W : World) (h : Hd α) : Prop := SlG W h.A h.l.length h.c r.sz r.f h.l ∧ ∀ x ∈ h.l, r.ok W x
theorem Hd.ok.keep {P : Program} {α : Type} {e : TypeId} {r : Rd P e α} {W W' : World} {h : Hd α} (H : h.ok r W) (hb : Below W.heap.size W W') : h.ok r W' := ⟨H.1.keep hb, fun x hx => r.keep (H.2 x hx) hb⟩
/-- a slice of what is read. -/
def rdSl {P : Program} {α : Type} {e : TypeId} (t : TypeId) (r : Rd P e α) (ht : P.underlying t = some (.slice e)) (hC : P.cellsOf e = r.sz) (hs : 0 < r.sz) : Rd P t (Hd α) where
  sz := 1
  f h := [h.v]
  ok W h := h.ok r W
  len _ := rfl
  keep H hb := H.keep hb
  trod hl h := by
    rename_i cs _
    match cs, hl with
    | [v], _ =>
      obtain ⟨A, n, c, l, rfl, hsl, hok⟩ := trod_SlG (f := r.f) (ok := r.ok _) ht hC hs (fun fuel cs x hl h => r.trod hl h) h
      have := hsl.2.1
      subst this
      exact ⟨⟨A, c, l⟩, rfl, hsl, hok⟩
theorem rd_arg {P : Program} {t : TypeId} {α : Type} (R : Rd P t α) {fs : Array Field} (hu : P.underlying t = some (.struct fs)) (hC : P.cellsOf t = R.sz) {H : Type} {enc : TypeId × Value → H} {W : World} {r : Reach} {base : Nat} {v : Value} {d : DataW H} {p : List MemPlace}
    (hv : Value.okWide P W r base t v) (h : DataW.Trod enc P W 0 (fun _ => true) true t v d p) : ∃ x, v = .agg (R.f x).toArray ∧ R.ok W x := by
  obtain ⟨cs, rfl, hsz⟩ := okWide_struct hu hv
  obtain ⟨fuel, hf⟩ := h
  obtain ⟨x, h1, h2⟩ := R.trod (cs := cs.toList) (by simpa [hC] using hsz) hf
  exact ⟨x, by rw [← h1], h2⟩
theorem rd_args {P : Program} {t : TypeId} {α : Type} {e : TypeId} (R : Rd P t (Hd α)) (hf : ∀ h, R.f h = [h.v]) (hsz : R.sz = 1) (ht : P.underlying t = some (.slice e)) {H : Type} {enc : TypeId × Value → H} {W : World} {r : Reach} {base : Nat} {v : Value} {d : DataW H} {p : List MemPlace}
    (hv : Value.okWide P W r base t v) (h : DataW.Trod enc P W 0 (fun _ => true) true t v d p) : ∃ x, v = x.v ∧ R.ok W x := by
  obtain ⟨a, len, cap, rfl⟩ := okWide_slice ht hv
  obtain ⟨fuel, hf'⟩ := h
  obtain ⟨x, h1, h2⟩ := R.trod (cs := [.slice a len cap]) (by rw [hsz]; rfl) (by simpa [Value.cells] using hf')
  rw [hf] at h1
  exact ⟨x, by injection h1, h2⟩
noncomputable def fieldsOf (t : TypeId) : Array Field := match Tryz.prog.underlying t with | some (.struct fs) => fs | _ => #[]
structure Rg where
  base : Int
  size : Int
  wr : Bool
def Rg.f (x : Rg) : List Value := [.int .i64 x.base, .int .i64 x.size, .bool x.wr]
def Rg0 : Rg := ⟨0, 0, false⟩
def Rg.ok (W : World) (x : Rg) : Prop := rdInt.ok W x.base ∧ rdInt.ok W x.size ∧ rdBool.ok W x.wr
theorem u_Rg : Tryz.prog.underlying 124 = some (.struct (fieldsOf 124)) := by kernel_rfl
noncomputable def rdRg : Rd Tryz.prog 124 Rg where
  sz := 3
  f := Rg.f
  ok := Rg.ok
  len _ := rfl
  keep H hb := ⟨rdInt.keep H.1 hb, rdInt.keep H.2.1 hb, rdBool.keep H.2.2 hb⟩
  trod hl h := by
    rename_i cs _
    match cs, hl with
    | [v0, v1, v2], _ =>
      obtain ⟨_, _, g0⟩ := trod_field u_Rg h 0 3 0 1 (by kernel_rfl) (by kernel_rfl)
      obtain ⟨x0, e0, o0⟩ := rdInt.trod rfl g0
      obtain ⟨_, _, g1⟩ := trod_field u_Rg h 1 3 1 1 (by kernel_rfl) (by kernel_rfl)
      obtain ⟨x1, e1, o1⟩ := rdInt.trod rfl g1
      obtain ⟨_, _, g2⟩ := trod_field u_Rg h 2 4 2 1 (by kernel_rfl) (by kernel_rfl)
      obtain ⟨x2, e2, o2⟩ := rdBool.trod rfl g2
      cases e0
      cases e1
      cases e2
      exact ⟨⟨x0, x1, x2⟩, rfl, o0, o1, o2⟩
structure Pc where
  prio : Int
  per : Int
  cost : Int
def Pc.f (x : Pc) : List Value := [.int .i64 x.prio, .int .i64 x.per, .int .i64 x.cost]
def Pc0 : Pc := ⟨0, 0, 0⟩
def Pc.ok (W : World) (x : Pc) : Prop := rdInt.ok W x.prio ∧ rdInt.ok W x.per ∧ rdInt.ok W x.cost
theorem u_Pc : Tryz.prog.underlying 129 = some (.struct (fieldsOf 129)) := by kernel_rfl
noncomputable def rdPc : Rd Tryz.prog 129 Pc where
  sz := 3
  f := Pc.f
  ok := Pc.ok
  len _ := rfl
  keep H hb := ⟨rdInt.keep H.1 hb, rdInt.keep H.2.1 hb, rdInt.keep H.2.2 hb⟩
  trod hl h := by
    rename_i cs _
    match cs, hl with
    | [v0, v1, v2], _ =>
      obtain ⟨_, _, g0⟩ := trod_field u_Pc h 0 3 0 1 (by kernel_rfl) (by kernel_rfl)
      obtain ⟨x0, e0, o0⟩ := rdInt.trod rfl g0
      obtain ⟨_, _, g1⟩ := trod_field u_Pc h 1 3 1 1 (by kernel_rfl) (by kernel_rfl)
      obtain ⟨x1, e1, o1⟩ := rdInt.trod rfl g1
      obtain ⟨_, _, g2⟩ := trod_field u_Pc h 2 3 2 1 (by kernel_rfl) (by kernel_rfl)
      obtain ⟨x2, e2, o2⟩ := rdInt.trod rfl g2
      cases e0
      cases e1
      cases e2
      exact ⟨⟨x0, x1, x2⟩, rfl, o0, o1, o2⟩
structure Po where
  q : Bool
  inn : Bool
  size : Int
  depth : Int
def Po.f (x : Po) : List Value := [.bool x.q, .bool x.inn, .int .i64 x.size, .int .i64 x.depth]
def Po0 : Po := ⟨false, false, 0, 0⟩
def Po.ok (W : World) (x : Po) : Prop := rdBool.ok W x.q ∧ rdBool.ok W x.inn ∧ rdInt.ok W x.size ∧ rdInt.ok W x.depth
theorem u_Po : Tryz.prog.underlying 133 = some (.struct (fieldsOf 133)) := by kernel_rfl
noncomputable def rdPo : Rd Tryz.prog 133 Po where
  sz := 4
  f := Po.f
  ok := Po.ok
  len _ := rfl
  keep H hb := ⟨rdBool.keep H.1 hb, rdBool.keep H.2.1 hb, rdInt.keep H.2.2.1 hb, rdInt.keep H.2.2.2 hb⟩
  trod hl h := by
    rename_i cs _
    match cs, hl with
    | [v0, v1, v2, v3], _ =>
      obtain ⟨_, _, g0⟩ := trod_field u_Po h 0 4 0 1 (by kernel_rfl) (by kernel_rfl)
      obtain ⟨x0, e0, o0⟩ := rdBool.trod rfl g0
      obtain ⟨_, _, g1⟩ := trod_field u_Po h 1 4 1 1 (by kernel_rfl) (by kernel_rfl)
      obtain ⟨x1, e1, o1⟩ := rdBool.trod rfl g1
      obtain ⟨_, _, g2⟩ := trod_field u_Po h 2 3 2 1 (by kernel_rfl) (by kernel_rfl)
      obtain ⟨x2, e2, o2⟩ := rdInt.trod rfl g2
      obtain ⟨_, _, g3⟩ := trod_field u_Po h 3 3 3 1 (by kernel_rfl) (by kernel_rfl)
      obtain ⟨x3, e3, o3⟩ := rdInt.trod rfl g3
      cases e0
      cases e1
      cases e2
      cases e3
      exact ⟨⟨x0, x1, x2, x3⟩, rfl, o0, o1, o2, o3⟩
structure Sm where
  first : Int
  most : Int
def Sm.f (x : Sm) : List Value := [.int .i64 x.first, .int .i64 x.most]
def Sm0 : Sm := ⟨0, 0⟩
def Sm.ok (W : World) (x : Sm) : Prop := rdInt.ok W x.first ∧ rdInt.ok W x.most
theorem u_Sm : Tryz.prog.underlying 137 = some (.struct (fieldsOf 137)) := by kernel_rfl
noncomputable def rdSm : Rd Tryz.prog 137 Sm where
  sz := 2
  f := Sm.f
  ok := Sm.ok
  len _ := rfl
  keep H hb := ⟨rdInt.keep H.1 hb, rdInt.keep H.2 hb⟩
  trod hl h := by
    rename_i cs _
    match cs, hl with
    | [v0, v1], _ =>
      obtain ⟨_, _, g0⟩ := trod_field u_Sm h 0 3 0 1 (by kernel_rfl) (by kernel_rfl)
      obtain ⟨x0, e0, o0⟩ := rdInt.trod rfl g0
      obtain ⟨_, _, g1⟩ := trod_field u_Sm h 1 3 1 1 (by kernel_rfl) (by kernel_rfl)
      obtain ⟨x1, e1, o1⟩ := rdInt.trod rfl g1
      cases e0
      cases e1
      exact ⟨⟨x0, x1⟩, rfl, o0, o1⟩
structure Pl where
  size : Int
  depth : Int
def Pl.f (x : Pl) : List Value := [.int .i64 x.size, .int .i64 x.depth]
def Pl0 : Pl := ⟨0, 0⟩
def Pl.ok (W : World) (x : Pl) : Prop := rdInt.ok W x.size ∧ rdInt.ok W x.depth
theorem u_Pl : Tryz.prog.underlying 142 = some (.struct (fieldsOf 142)) := by kernel_rfl
noncomputable def rdPl : Rd Tryz.prog 142 Pl where
  sz := 2
  f := Pl.f
  ok := Pl.ok
  len _ := rfl
  keep H hb := ⟨rdInt.keep H.1 hb, rdInt.keep H.2 hb⟩
  trod hl h := by
    rename_i cs _
    match cs, hl with
    | [v0, v1], _ =>
      obtain ⟨_, _, g0⟩ := trod_field u_Pl h 0 3 0 1 (by kernel_rfl) (by kernel_rfl)
      obtain ⟨x0, e0, o0⟩ := rdInt.trod rfl g0
      obtain ⟨_, _, g1⟩ := trod_field u_Pl h 1 3 1 1 (by kernel_rfl) (by kernel_rfl)
      obtain ⟨x1, e1, o1⟩ := rdInt.trod rfl g1
      cases e0
      cases e1
      exact ⟨⟨x0, x1⟩, rfl, o0, o1⟩
noncomputable def rdRgs : Rd Tryz.prog 49 (Hd Rg) := rdSl 49 rdRg (by kernel_rfl) (by kernel_rfl) (by decide)
noncomputable def rdPcs : Rd Tryz.prog 50 (Hd Pc) := rdSl 50 rdPc (by kernel_rfl) (by kernel_rfl) (by decide)
noncomputable def rdPos : Rd Tryz.prog 51 (Hd Po) := rdSl 51 rdPo (by kernel_rfl) (by kernel_rfl) (by decide)
noncomputable def rdSms : Rd Tryz.prog 52 (Hd Sm) := rdSl 52 rdSm (by kernel_rfl) (by kernel_rfl) (by decide)
noncomputable def rdPls : Rd Tryz.prog 53 (Hd Pl) := rdSl 53 rdPl (by kernel_rfl) (by kernel_rfl) (by decide)
structure Pt where
  regs : Hd Rg
  procs : Hd Pc
  ports : Hd Po
  sems : Hd Sm
  flags : Int
  pools : Hd Pl
  slates : Hd Int
  cap : Int
  bud : Int
  lad : Int
  acts : Hd Int
def Pt.f (x : Pt) : List Value := [x.regs.v, x.procs.v, x.ports.v, x.sems.v, .int .i64 x.flags, x.pools.v, x.slates.v, .int .i64 x.cap, .int .i64 x.bud, .int .i64 x.lad, x.acts.v]
def Pt0 : Pt := ⟨⟨none, 0, []⟩, ⟨none, 0, []⟩, ⟨none, 0, []⟩, ⟨none, 0, []⟩, 0, ⟨none, 0, []⟩, ⟨none, 0, []⟩, 0, 0, 0, ⟨none, 0, []⟩⟩
def Pt.ok (W : World) (x : Pt) : Prop := rdRgs.ok W x.regs ∧ rdPcs.ok W x.procs ∧ rdPos.ok W x.ports ∧ rdSms.ok W x.sems ∧ rdInt.ok W x.flags ∧ rdPls.ok W x.pools ∧ rdInts.ok W x.slates ∧ rdInt.ok W x.cap ∧ rdInt.ok W x.bud ∧ rdInt.ok W x.lad ∧ rdInts.ok W x.acts
theorem u_Pt : Tryz.prog.underlying 55 = some (.struct (fieldsOf 55)) := by kernel_rfl
noncomputable def rdPt : Rd Tryz.prog 55 Pt where
  sz := 11
  f := Pt.f
  ok := Pt.ok
  len _ := rfl
  keep H hb := ⟨rdRgs.keep H.1 hb, rdPcs.keep H.2.1 hb, rdPos.keep H.2.2.1 hb, rdSms.keep H.2.2.2.1 hb, rdInt.keep H.2.2.2.2.1 hb, rdPls.keep H.2.2.2.2.2.1 hb, rdInts.keep H.2.2.2.2.2.2.1 hb, rdInt.keep H.2.2.2.2.2.2.2.1 hb, rdInt.keep H.2.2.2.2.2.2.2.2.1 hb, rdInt.keep H.2.2.2.2.2.2.2.2.2.1 hb, rdInts.keep H.2.2.2.2.2.2.2.2.2.2 hb⟩
  trod hl h := by
    rename_i cs _
    match cs, hl with
    | [v0, v1, v2, v3, v4, v5, v6, v7, v8, v9, v10], _ =>
      obtain ⟨_, _, g0⟩ := trod_field u_Pt h 0 49 0 1 (by kernel_rfl) (by kernel_rfl)
      obtain ⟨x0, e0, o0⟩ := rdRgs.trod rfl g0
      obtain ⟨_, _, g1⟩ := trod_field u_Pt h 1 50 1 1 (by kernel_rfl) (by kernel_rfl)
      obtain ⟨x1, e1, o1⟩ := rdPcs.trod rfl g1
      obtain ⟨_, _, g2⟩ := trod_field u_Pt h 2 51 2 1 (by kernel_rfl) (by kernel_rfl)
      obtain ⟨x2, e2, o2⟩ := rdPos.trod rfl g2
      obtain ⟨_, _, g3⟩ := trod_field u_Pt h 3 52 3 1 (by kernel_rfl) (by kernel_rfl)
      obtain ⟨x3, e3, o3⟩ := rdSms.trod rfl g3
      obtain ⟨_, _, g4⟩ := trod_field u_Pt h 4 3 4 1 (by kernel_rfl) (by kernel_rfl)
      obtain ⟨x4, e4, o4⟩ := rdInt.trod rfl g4
      obtain ⟨_, _, g5⟩ := trod_field u_Pt h 5 53 5 1 (by kernel_rfl) (by kernel_rfl)
      obtain ⟨x5, e5, o5⟩ := rdPls.trod rfl g5
      obtain ⟨_, _, g6⟩ := trod_field u_Pt h 6 29 6 1 (by kernel_rfl) (by kernel_rfl)
      obtain ⟨x6, e6, o6⟩ := rdInts.trod rfl g6
      obtain ⟨_, _, g7⟩ := trod_field u_Pt h 7 3 7 1 (by kernel_rfl) (by kernel_rfl)
      obtain ⟨x7, e7, o7⟩ := rdInt.trod rfl g7
      obtain ⟨_, _, g8⟩ := trod_field u_Pt h 8 3 8 1 (by kernel_rfl) (by kernel_rfl)
      obtain ⟨x8, e8, o8⟩ := rdInt.trod rfl g8
      obtain ⟨_, _, g9⟩ := trod_field u_Pt h 9 3 9 1 (by kernel_rfl) (by kernel_rfl)
      obtain ⟨x9, e9, o9⟩ := rdInt.trod rfl g9
      obtain ⟨_, _, g10⟩ := trod_field u_Pt h 10 29 10 1 (by kernel_rfl) (by kernel_rfl)
      obtain ⟨x10, e10, o10⟩ := rdInts.trod rfl g10
      cases e0
      cases e1
      cases e2
      cases e3
      cases e4
      cases e5
      cases e6
      cases e7
      cases e8
      cases e9
      cases e10
      exact ⟨⟨x0, x1, x2, x3, x4, x5, x6, x7, x8, x9, x10⟩, rfl, o0, o1, o2, o3, o4, o5, o6, o7, o8, o9, o10⟩
structure En where
  part : Int
  port : Int
def En.f (x : En) : List Value := [.int .i64 x.part, .int .i64 x.port]
def En0 : En := ⟨0, 0⟩
def En.ok (W : World) (x : En) : Prop := rdInt.ok W x.part ∧ rdInt.ok W x.port
theorem u_En : Tryz.prog.underlying 70 = some (.struct (fieldsOf 70)) := by kernel_rfl
noncomputable def rdEn : Rd Tryz.prog 70 En where
  sz := 2
  f := En.f
  ok := En.ok
  len _ := rfl
  keep H hb := ⟨rdInt.keep H.1 hb, rdInt.keep H.2 hb⟩
  trod hl h := by
    rename_i cs _
    match cs, hl with
    | [v0, v1], _ =>
      obtain ⟨_, _, g0⟩ := trod_field u_En h 0 3 0 1 (by kernel_rfl) (by kernel_rfl)
      obtain ⟨x0, e0, o0⟩ := rdInt.trod rfl g0
      obtain ⟨_, _, g1⟩ := trod_field u_En h 1 3 1 1 (by kernel_rfl) (by kernel_rfl)
      obtain ⟨x1, e1, o1⟩ := rdInt.trod rfl g1
      cases e0
      cases e1
      exact ⟨⟨x0, x1⟩, rfl, o0, o1⟩
structure Ch where
  fr : En
  «to» : En
def Ch.f (x : Ch) : List Value := [.int .i64 x.fr.part, .int .i64 x.fr.port, .int .i64 x.to.part, .int .i64 x.to.port]
def Ch0 : Ch := ⟨En0, En0⟩
def Ch.ok (W : World) (x : Ch) : Prop := rdEn.ok W x.fr ∧ rdEn.ok W x.to
theorem u_Ch : Tryz.prog.underlying 72 = some (.struct (fieldsOf 72)) := by kernel_rfl
noncomputable def rdCh : Rd Tryz.prog 72 Ch where
  sz := 4
  f := Ch.f
  ok := Ch.ok
  len _ := rfl
  keep H hb := ⟨rdEn.keep H.1 hb, rdEn.keep H.2 hb⟩
  trod hl h := by
    rename_i cs _
    match cs, hl with
    | [v0, v1, v2, v3], _ =>
      obtain ⟨_, _, g0⟩ := trod_field u_Ch h 0 70 0 2 (by kernel_rfl) (by kernel_rfl)
      obtain ⟨x0, e0, o0⟩ := rdEn.trod rfl g0
      obtain ⟨_, _, g1⟩ := trod_field u_Ch h 1 70 2 2 (by kernel_rfl) (by kernel_rfl)
      obtain ⟨x1, e1, o1⟩ := rdEn.trod rfl g1
      cases e0
      cases e1
      exact ⟨⟨x0, x1⟩, rfl, o0, o1⟩
structure Wn where
  part : Int
  start : Int
  len : Int
def Wn.f (x : Wn) : List Value := [.int .i64 x.part, .int .i64 x.start, .int .i64 x.len]
def Wn0 : Wn := ⟨0, 0, 0⟩
def Wn.ok (W : World) (x : Wn) : Prop := rdInt.ok W x.part ∧ rdInt.ok W x.start ∧ rdInt.ok W x.len
theorem u_Wn : Tryz.prog.underlying 85 = some (.struct (fieldsOf 85)) := by kernel_rfl
noncomputable def rdWn : Rd Tryz.prog 85 Wn where
  sz := 3
  f := Wn.f
  ok := Wn.ok
  len _ := rfl
  keep H hb := ⟨rdInt.keep H.1 hb, rdInt.keep H.2.1 hb, rdInt.keep H.2.2 hb⟩
  trod hl h := by
    rename_i cs _
    match cs, hl with
    | [v0, v1, v2], _ =>
      obtain ⟨_, _, g0⟩ := trod_field u_Wn h 0 3 0 1 (by kernel_rfl) (by kernel_rfl)
      obtain ⟨x0, e0, o0⟩ := rdInt.trod rfl g0
      obtain ⟨_, _, g1⟩ := trod_field u_Wn h 1 3 1 1 (by kernel_rfl) (by kernel_rfl)
      obtain ⟨x1, e1, o1⟩ := rdInt.trod rfl g1
      obtain ⟨_, _, g2⟩ := trod_field u_Wn h 2 3 2 1 (by kernel_rfl) (by kernel_rfl)
      obtain ⟨x2, e2, o2⟩ := rdInt.trod rfl g2
      cases e0
      cases e1
      cases e2
      exact ⟨⟨x0, x1, x2⟩, rfl, o0, o1, o2⟩
noncomputable def rdWns : Rd Tryz.prog 56 (Hd Wn) := rdSl 56 rdWn (by kernel_rfl) (by kernel_rfl) (by decide)
structure Md where
  frame : Int
  wins : Hd Wn
def Md.f (x : Md) : List Value := [.int .i64 x.frame, x.wins.v]
def Md0 : Md := ⟨0, ⟨none, 0, []⟩⟩
def Md.ok (W : World) (x : Md) : Prop := rdInt.ok W x.frame ∧ rdWns.ok W x.wins
theorem u_Md : Tryz.prog.underlying 58 = some (.struct (fieldsOf 58)) := by kernel_rfl
noncomputable def rdMd : Rd Tryz.prog 58 Md where
  sz := 2
  f := Md.f
  ok := Md.ok
  len _ := rfl
  keep H hb := ⟨rdInt.keep H.1 hb, rdWns.keep H.2 hb⟩
  trod hl h := by
    rename_i cs _
    match cs, hl with
    | [v0, v1], _ =>
      obtain ⟨_, _, g0⟩ := trod_field u_Md h 0 3 0 1 (by kernel_rfl) (by kernel_rfl)
      obtain ⟨x0, e0, o0⟩ := rdInt.trod rfl g0
      obtain ⟨_, _, g1⟩ := trod_field u_Md h 1 56 1 1 (by kernel_rfl) (by kernel_rfl)
      obtain ⟨x1, e1, o1⟩ := rdWns.trod rfl g1
      cases e0
      cases e1
      exact ⟨⟨x0, x1⟩, rfl, o0, o1⟩
structure Lv where
  freq : Int
  power : Int
def Lv.f (x : Lv) : List Value := [.int .i64 x.freq, .int .i64 x.power]
def Lv0 : Lv := ⟨0, 0⟩
def Lv.ok (W : World) (x : Lv) : Prop := rdInt.ok W x.freq ∧ rdInt.ok W x.power
theorem u_Lv : Tryz.prog.underlying 87 = some (.struct (fieldsOf 87)) := by kernel_rfl
noncomputable def rdLv : Rd Tryz.prog 87 Lv where
  sz := 2
  f := Lv.f
  ok := Lv.ok
  len _ := rfl
  keep H hb := ⟨rdInt.keep H.1 hb, rdInt.keep H.2 hb⟩
  trod hl h := by
    rename_i cs _
    match cs, hl with
    | [v0, v1], _ =>
      obtain ⟨_, _, g0⟩ := trod_field u_Lv h 0 3 0 1 (by kernel_rfl) (by kernel_rfl)
      obtain ⟨x0, e0, o0⟩ := rdInt.trod rfl g0
      obtain ⟨_, _, g1⟩ := trod_field u_Lv h 1 3 1 1 (by kernel_rfl) (by kernel_rfl)
      obtain ⟨x1, e1, o1⟩ := rdInt.trod rfl g1
      cases e0
      cases e1
      exact ⟨⟨x0, x1⟩, rfl, o0, o1⟩
structure Np where
  power : Int
  enter : Int
  wake : Int
def Np.f (x : Np) : List Value := [.int .i64 x.power, .int .i64 x.enter, .int .i64 x.wake]
def Np0 : Np := ⟨0, 0, 0⟩
def Np.ok (W : World) (x : Np) : Prop := rdInt.ok W x.power ∧ rdInt.ok W x.enter ∧ rdInt.ok W x.wake
theorem u_Np : Tryz.prog.underlying 89 = some (.struct (fieldsOf 89)) := by kernel_rfl
noncomputable def rdNp : Rd Tryz.prog 89 Np where
  sz := 3
  f := Np.f
  ok := Np.ok
  len _ := rfl
  keep H hb := ⟨rdInt.keep H.1 hb, rdInt.keep H.2.1 hb, rdInt.keep H.2.2 hb⟩
  trod hl h := by
    rename_i cs _
    match cs, hl with
    | [v0, v1, v2], _ =>
      obtain ⟨_, _, g0⟩ := trod_field u_Np h 0 3 0 1 (by kernel_rfl) (by kernel_rfl)
      obtain ⟨x0, e0, o0⟩ := rdInt.trod rfl g0
      obtain ⟨_, _, g1⟩ := trod_field u_Np h 1 3 1 1 (by kernel_rfl) (by kernel_rfl)
      obtain ⟨x1, e1, o1⟩ := rdInt.trod rfl g1
      obtain ⟨_, _, g2⟩ := trod_field u_Np h 2 3 2 1 (by kernel_rfl) (by kernel_rfl)
      obtain ⟨x2, e2, o2⟩ := rdInt.trod rfl g2
      cases e0
      cases e1
      cases e2
      exact ⟨⟨x0, x1, x2⟩, rfl, o0, o1, o2⟩
noncomputable def rdLvs : Rd Tryz.prog 25 (Hd Lv) := rdSl 25 rdLv (by kernel_rfl) (by kernel_rfl) (by decide)
noncomputable def rdNps : Rd Tryz.prog 26 (Hd Np) := rdSl 26 rdNp (by kernel_rfl) (by kernel_rfl) (by decide)
structure Pw where
  levels : Hd Lv
  naps : Hd Np
  sw : Int
  idle : Int
  change : Int
  quant : Int
  slow : Int
  ppm : Int
def Pw.f (x : Pw) : List Value := [x.levels.v, x.naps.v, .int .i64 x.sw, .int .i64 x.idle, .int .i64 x.change, .int .i64 x.quant, .int .i64 x.slow, .int .i64 x.ppm]
def Pw0 : Pw := ⟨⟨none, 0, []⟩, ⟨none, 0, []⟩, 0, 0, 0, 0, 0, 0⟩
def Pw.ok (W : World) (x : Pw) : Prop := rdLvs.ok W x.levels ∧ rdNps.ok W x.naps ∧ rdInt.ok W x.sw ∧ rdInt.ok W x.idle ∧ rdInt.ok W x.change ∧ rdInt.ok W x.quant ∧ rdInt.ok W x.slow ∧ rdInt.ok W x.ppm
theorem u_Pw : Tryz.prog.underlying 28 = some (.struct (fieldsOf 28)) := by kernel_rfl
noncomputable def rdPw : Rd Tryz.prog 28 Pw where
  sz := 8
  f := Pw.f
  ok := Pw.ok
  len _ := rfl
  keep H hb := ⟨rdLvs.keep H.1 hb, rdNps.keep H.2.1 hb, rdInt.keep H.2.2.1 hb, rdInt.keep H.2.2.2.1 hb, rdInt.keep H.2.2.2.2.1 hb, rdInt.keep H.2.2.2.2.2.1 hb, rdInt.keep H.2.2.2.2.2.2.1 hb, rdInt.keep H.2.2.2.2.2.2.2 hb⟩
  trod hl h := by
    rename_i cs _
    match cs, hl with
    | [v0, v1, v2, v3, v4, v5, v6, v7], _ =>
      obtain ⟨_, _, g0⟩ := trod_field u_Pw h 0 25 0 1 (by kernel_rfl) (by kernel_rfl)
      obtain ⟨x0, e0, o0⟩ := rdLvs.trod rfl g0
      obtain ⟨_, _, g1⟩ := trod_field u_Pw h 1 26 1 1 (by kernel_rfl) (by kernel_rfl)
      obtain ⟨x1, e1, o1⟩ := rdNps.trod rfl g1
      obtain ⟨_, _, g2⟩ := trod_field u_Pw h 2 3 2 1 (by kernel_rfl) (by kernel_rfl)
      obtain ⟨x2, e2, o2⟩ := rdInt.trod rfl g2
      obtain ⟨_, _, g3⟩ := trod_field u_Pw h 3 3 3 1 (by kernel_rfl) (by kernel_rfl)
      obtain ⟨x3, e3, o3⟩ := rdInt.trod rfl g3
      obtain ⟨_, _, g4⟩ := trod_field u_Pw h 4 3 4 1 (by kernel_rfl) (by kernel_rfl)
      obtain ⟨x4, e4, o4⟩ := rdInt.trod rfl g4
      obtain ⟨_, _, g5⟩ := trod_field u_Pw h 5 3 5 1 (by kernel_rfl) (by kernel_rfl)
      obtain ⟨x5, e5, o5⟩ := rdInt.trod rfl g5
      obtain ⟨_, _, g6⟩ := trod_field u_Pw h 6 3 6 1 (by kernel_rfl) (by kernel_rfl)
      obtain ⟨x6, e6, o6⟩ := rdInt.trod rfl g6
      obtain ⟨_, _, g7⟩ := trod_field u_Pw h 7 3 7 1 (by kernel_rfl) (by kernel_rfl)
      obtain ⟨x7, e7, o7⟩ := rdInt.trod rfl g7
      cases e0
      cases e1
      cases e2
      cases e3
      cases e4
      cases e5
      cases e6
      cases e7
      exact ⟨⟨x0, x1, x2, x3, x4, x5, x6, x7⟩, rfl, o0, o1, o2, o3, o4, o5, o6, o7⟩
structure Sd where
  down : Hd Int
  up : Hd Int
def Sd.f (x : Sd) : List Value := [x.down.v, x.up.v]
def Sd0 : Sd := ⟨⟨none, 0, []⟩, ⟨none, 0, []⟩⟩
def Sd.ok (W : World) (x : Sd) : Prop := rdInts.ok W x.down ∧ rdInts.ok W x.up
theorem u_Sd : Tryz.prog.underlying 31 = some (.struct (fieldsOf 31)) := by kernel_rfl
noncomputable def rdSd : Rd Tryz.prog 31 Sd where
  sz := 2
  f := Sd.f
  ok := Sd.ok
  len _ := rfl
  keep H hb := ⟨rdInts.keep H.1 hb, rdInts.keep H.2 hb⟩
  trod hl h := by
    rename_i cs _
    match cs, hl with
    | [v0, v1], _ =>
      obtain ⟨_, _, g0⟩ := trod_field u_Sd h 0 29 0 1 (by kernel_rfl) (by kernel_rfl)
      obtain ⟨x0, e0, o0⟩ := rdInts.trod rfl g0
      obtain ⟨_, _, g1⟩ := trod_field u_Sd h 1 29 1 1 (by kernel_rfl) (by kernel_rfl)
      obtain ⟨x1, e1, o1⟩ := rdInts.trod rfl g1
      cases e0
      cases e1
      exact ⟨⟨x0, x1⟩, rfl, o0, o1⟩
noncomputable def rdPts : Rd Tryz.prog 22 (Hd Pt) := rdSl 22 rdPt (by kernel_rfl) (by kernel_rfl) (by decide)
noncomputable def rdChs : Rd Tryz.prog 23 (Hd Ch) := rdSl 23 rdCh (by kernel_rfl) (by kernel_rfl) (by decide)
noncomputable def rdMds : Rd Tryz.prog 24 (Hd Md) := rdSl 24 rdMd (by kernel_rfl) (by kernel_rfl) (by decide)
structure Cf where
  parts : Hd Pt
  chans : Hd Ch
  modes : Hd Md
  pw : Pw
  shed : Sd
def Cf.f (x : Cf) : List Value := [x.parts.v, x.chans.v, x.modes.v, x.pw.levels.v, x.pw.naps.v, .int .i64 x.pw.sw, .int .i64 x.pw.idle, .int .i64 x.pw.change, .int .i64 x.pw.quant, .int .i64 x.pw.slow, .int .i64 x.pw.ppm, x.shed.down.v, x.shed.up.v]
def Cf0 : Cf := ⟨⟨none, 0, []⟩, ⟨none, 0, []⟩, ⟨none, 0, []⟩, Pw0, Sd0⟩
def Cf.ok (W : World) (x : Cf) : Prop := rdPts.ok W x.parts ∧ rdChs.ok W x.chans ∧ rdMds.ok W x.modes ∧ rdPw.ok W x.pw ∧ rdSd.ok W x.shed
theorem u_Cf : Tryz.prog.underlying 33 = some (.struct (fieldsOf 33)) := by kernel_rfl
noncomputable def rdCf : Rd Tryz.prog 33 Cf where
  sz := 13
  f := Cf.f
  ok := Cf.ok
  len _ := rfl
  keep H hb := ⟨rdPts.keep H.1 hb, rdChs.keep H.2.1 hb, rdMds.keep H.2.2.1 hb, rdPw.keep H.2.2.2.1 hb, rdSd.keep H.2.2.2.2 hb⟩
  trod hl h := by
    rename_i cs _
    match cs, hl with
    | [v0, v1, v2, v3, v4, v5, v6, v7, v8, v9, v10, v11, v12], _ =>
      obtain ⟨_, _, g0⟩ := trod_field u_Cf h 0 22 0 1 (by kernel_rfl) (by kernel_rfl)
      obtain ⟨x0, e0, o0⟩ := rdPts.trod rfl g0
      obtain ⟨_, _, g1⟩ := trod_field u_Cf h 1 23 1 1 (by kernel_rfl) (by kernel_rfl)
      obtain ⟨x1, e1, o1⟩ := rdChs.trod rfl g1
      obtain ⟨_, _, g2⟩ := trod_field u_Cf h 2 24 2 1 (by kernel_rfl) (by kernel_rfl)
      obtain ⟨x2, e2, o2⟩ := rdMds.trod rfl g2
      obtain ⟨_, _, g3⟩ := trod_field u_Cf h 3 28 3 8 (by kernel_rfl) (by kernel_rfl)
      obtain ⟨x3, e3, o3⟩ := rdPw.trod rfl g3
      obtain ⟨_, _, g4⟩ := trod_field u_Cf h 4 31 11 2 (by kernel_rfl) (by kernel_rfl)
      obtain ⟨x4, e4, o4⟩ := rdSd.trod rfl g4
      cases e0
      cases e1
      cases e2
      cases e3
      cases e4
      exact ⟨⟨x0, x1, x2, x3, x4⟩, rfl, o0, o1, o2, o3, o4⟩
end Go.Proofs.YtahjnonkhbpnpaaGreat
