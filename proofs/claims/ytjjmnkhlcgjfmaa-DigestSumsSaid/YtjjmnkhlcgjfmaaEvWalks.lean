/- An event's bytes: the program's and the document's. -/
import Derived.Test.YtjjmnkhlcgjfmaaVarWalks
namespace Go.Proofs.Ytjjmnkhlcgjfmaa
open Go.RowKit
/-- an event's numbers -/
structure Ev where
  (a b c d e f : Int)
deriving DecidableEq
def Ev.l (x : Ev) : List Int := [x.a, x.b, x.c, x.d, x.e, x.f]
def Ev.ok (x : Ev) : Prop := i64 x.a ∧ i64 x.b ∧ i64 x.c ∧ i64 x.d ∧ i64 x.e ∧ i64 x.f
def Ev.v (x : Ev) : Value := .agg #[.int .i64 x.a, .int .i64 x.b, .int .i64 x.c, .int .i64 x.d, .int .i64 x.e, .int .i64 x.f]
def evB (x : Ev) : List UInt8 := vint x.a ++ vint x.b ++ vint x.c ++ vint x.d ++ vint x.e ++ vint x.f
theorem evB_len (x : Ev) : 0 < (evB x).length ∧ (evB x).length ≤ 66 := by
  have h1 := vint_len x.a; have h2 := vint_len x.b; have h3 := vint_len x.c
  have h4 := vint_len x.d; have h5 := vint_len x.e; have h6 := vint_len x.f
  unfold evB
  simp only [List.length_append]
  omega

set_option maxRecDepth 100000 in
theorem bytes_any {w : World} {x : Ev} (hx : x.ok) :
    Calls Try.prog 14 #[x.v] w fun e w' => ∃ v, e = .returned v ∧ w'.ownsRow w.heap.size 5 1 v (evB x).length ((evB x).map bv) ∧ Below w.heap.size w w' := by
  obtain ⟨a, b, c, d, e, f⟩ := x
  obtain ⟨ha, hb, hc, hd, he, hf⟩ := hx
  simp only at ha hb hc hd he hf
  have la := vint_len a; have lb := vint_len b; have lc := vint_len c
  have ld := vint_len d; have le := vint_len e; have lf := vint_len f
  have HB : Hid (evB ⟨a, b, c, d, e, f⟩ = vint a ++ vint b ++ vint c ++ vint d ++ vint e ++ vint f) := rfl
  show Calls Try.prog _ #[.agg #[.int .i64 a, .int .i64 b, .int .i64 c, .int .i64 d, .int .i64 e, .int .i64 f]] w _
  have b0 := Blk.new w 39 #[.int .i64 a, .int .i64 b, .int .i64 c, .int .i64 d, .int .i64 e, .int .i64 f]
  have hw0 := Wrt.new (w.alloc (.cells #[.int .i64 a, .int .i64 b, .int .i64 c, .int .i64 d, .int .i64 e, .int .i64 f] 39))
  have hb0 := ((Below.refl w.heap.size w).alloc (Nat.le_refl _) (.cells #[.int .i64 a, .int .i64 b, .int .i64 c, .int .i64 d, .int .i64 e, .int .i64 f] 39)).alloc (by simp) (.cells #[.slice none 0 0] 63)
  rw [World.size_alloc] at hw0
  go_enter Try.func14, Try.ntmps14
  go_wp2_with fail
  generalize (w.alloc (.cells #[.int .i64 a, .int .i64 b, .int .i64 c, .int .i64 d, .int .i64 e, .int .i64 f] 39)).alloc (.cells #[.slice none 0 0] 63) = w0 at hw0 hb0 ⊢
  have fr0 := Fr.refl (fun k => k = w.heap.size + 1 ∨ w.heap.size + 1 + 1 ≤ k) w0
  have hz0 := hb0.size
  clear b0
  have ix0 : ∀ w, (Instr.index 64 (.agg #[.int .i64 a, .int .i64 b, .int .i64 c, .int .i64 d, .int .i64 e, .int .i64 f]) (.int .i64 0)).run Try.prog w = .ok (.int .i64 a) w := fun w => rfl
  have ix1 : ∀ w, (Instr.index 64 (.agg #[.int .i64 a, .int .i64 b, .int .i64 c, .int .i64 d, .int .i64 e, .int .i64 f]) (.int .i64 1)).run Try.prog w = .ok (.int .i64 b) w := fun w => rfl
  have ix2 : ∀ w, (Instr.index 64 (.agg #[.int .i64 a, .int .i64 b, .int .i64 c, .int .i64 d, .int .i64 e, .int .i64 f]) (.int .i64 2)).run Try.prog w = .ok (.int .i64 c) w := fun w => rfl
  have ix3 : ∀ w, (Instr.index 64 (.agg #[.int .i64 a, .int .i64 b, .int .i64 c, .int .i64 d, .int .i64 e, .int .i64 f]) (.int .i64 3)).run Try.prog w = .ok (.int .i64 d) w := fun w => rfl
  have ix4 : ∀ w, (Instr.index 64 (.agg #[.int .i64 a, .int .i64 b, .int .i64 c, .int .i64 d, .int .i64 e, .int .i64 f]) (.int .i64 4)).run Try.prog w = .ok (.int .i64 e) w := fun w => rfl
  have ix5 : ∀ w, (Instr.index 64 (.agg #[.int .i64 a, .int .i64 b, .int .i64 c, .int .i64 d, .int .i64 e, .int .i64 f]) (.int .i64 5)).run Try.prog w = .ok (.int .i64 f) w := fun w => rfl
  refine wp_loop_rounds 7 ?_
  rw [rounds_succ]
  go_wp2_with fail
  refine (writeInt_any hw0 (by simp) ha).mono ?_
  rintro ee w1 ⟨rfl, hw1, fx1⟩
  have fr1 := fr0.trans fx1
  go_wp2_with fail
  rw [rounds_succ]
  go_wp2_with fail
  refine (writeInt_any hw1 (by simp; omega) hb).mono ?_
  rintro ee w2 ⟨rfl, hw2, fx2⟩
  have fr2 := fr1.trans fx2
  go_wp2_with fail
  rw [rounds_succ]
  go_wp2_with fail
  refine (writeInt_any hw2 (by simp; omega) hc).mono ?_
  rintro ee w3 ⟨rfl, hw3, fx3⟩
  have fr3 := fr2.trans fx3
  go_wp2_with fail
  rw [rounds_succ]
  go_wp2_with fail
  refine (writeInt_any hw3 (by simp; omega) hd).mono ?_
  rintro ee w4 ⟨rfl, hw4, fx4⟩
  have fr4 := fr3.trans fx4
  go_wp2_with fail
  rw [rounds_succ]
  go_wp2_with fail
  refine (writeInt_any hw4 (by simp; omega) he).mono ?_
  rintro ee w5 ⟨rfl, hw5, fx5⟩
  have fr5 := fr4.trans fx5
  go_wp2_with fail
  rw [rounds_succ]
  go_wp2_with fail
  refine (writeInt_any hw5 (by simp; omega) hf).mono ?_
  rintro ee w6 ⟨rfl, hw6, fx6⟩
  have fr6 := fr5.trans fx6
  go_wp2_with fail
  rw [rounds_succ]
  go_wp2_with fail
  refine (writerBytes_any hw6 (by simp; omega)).mono ?_
  rintro ee w7 ⟨v7, rfl, hown7, hb7⟩
  go_wp2_with fail
  go_ret
  have hbw : Below w.heap.size w w6 := hb0.trans (fr6.below (fun k hk h => by omega) hz0)
  exact ⟨v7, rfl, by rw [HB.out]; exact own_mono (by simpa using hown7) hbw.size, hbw.trans (hb7.mono hbw.size)⟩

/-- append(out, b...): b is not empty; out is owned. -/
theorem wpList_appB {ops : Array Oper} {rest : List Oper} {o : Oper} {a : Act} {Q : Exit → Act → World → Prop} (w : World) (hgd : o.guard = none) (s x : Operand)
    (ho : o.op = .call { callee := .builtin .append, args := #[s, x], argTypes := #[31, 31] })
    (base : Nat) (v : Value) (n : Nat) (l1 : List UInt8) (hs : a.eval s = v) (hown : w.ownsRow base 5 1 v n (l1.map bv))
    (A : Option Addr) (m c : Nat) (l2 : List UInt8) (hsrc : SlB w A m c l2) (hm : 0 < m) (hx : a.eval x = .slice A m c) (hn : n + m ≤ 1000000) (hbase : base ≤ w.heap.size)
    (h : ∀ v' w', w'.ownsRow base 5 1 v' (n + m) ((l1 ++ l2).map bv) → Fr (fun k => v.ownBlock = some k) w w' → (v'.ownBlock = v.ownBlock ∨ v'.ownBlock = some w.heap.size) → wpList Try.prog ops Q rest (a.put o.dst v') w') :
    wpList Try.prog ops Q (o :: rest) a w := by
  obtain ⟨i0, hi0, hz0, hz1, hz2⟩ := info_parts byte_info
  obtain ⟨b, of, rfl, hb, hc⟩ := hsrc.1.at_ hm
  have hl2 := hsrc.2
  refine wpList_append_own_at w hgd s x 31 ho base 5 i0 _ 1 1 Try.underlying31 hi0 hz0 hz1 hz2 rfl (by decide) v n _ hs hown ⟨b, of, none⟩ m c (l2.map bv) hx (by simp; omega) (fun j u hu => by rw [add_none]; exact hc j u hu) (bv_cell l2) (by unfold maxLen; omega) (by omega) hbase ?_
  intro v' w' h1 h2 _ h4
  exact h v' w' (by rw [List.map_append]; exact h1) ((Fr.refl _ w).grown h2 (fun k _ hk => hk)) h4

/-- some numbers' bytes -/
def ints (l : List Int) : List UInt8 := l.flatMap vint
theorem ints_snoc (l : List Int) (x : Int) : ints (l ++ [x]) = ints l ++ vint x := by simp [ints]
theorem take_snocI (l : List Int) (k : Nat) (h : k < l.length) : l.take (k + 1) = l.take k ++ [at0 l k] := by
  rw [List.take_succ_eq_append_getElem h, at0_lt h]
theorem ints_len (l : List Int) : (ints l).length ≤ 11 * l.length := by
  induction l with
  | nil => simp [ints]
  | cons x l ih =>
    have := vint_len x
    simp only [ints, List.flatMap_cons, List.length_append, List.length_cons] at ih ⊢
    omega
theorem evB_ints (x : Ev) : evB x = ints x.l := by simp [evB, ints, Ev.l]

set_option maxRecDepth 100000 in
theorem refBytes_any {w : World} {x : Ev} (hx : x.ok) :
    Calls Try.prog 22 #[x.v] w fun e w' => ∃ v, e = .returned v ∧ w'.ownsRow w.heap.size 5 1 v (evB x).length ((evB x).map bv) ∧ Below w.heap.size w w' := by
  obtain ⟨a, b, c, d, e, f⟩ := x
  obtain ⟨ha, hb, hc, hd, he, hf⟩ := hx
  simp only at ha hb hc hd he hf
  have HB : Hid (evB ⟨a, b, c, d, e, f⟩ = ints [a, b, c, d, e, f]) := evB_ints _
  show Calls Try.prog _ #[.agg #[.int .i64 a, .int .i64 b, .int .i64 c, .int .i64 d, .int .i64 e, .int .i64 f]] w _
  have b0 := Blk.new (w.alloc (.cells #[.int .i64 a, .int .i64 b, .int .i64 c, .int .i64 d, .int .i64 e, .int .i64 f] 39)) 3 #[.int .i64 a, .int .i64 b, .int .i64 c, .int .i64 d, .int .i64 e, .int .i64 f]
  have hb0 := ((Below.refl w.heap.size w).alloc (Nat.le_refl _) (.cells #[.int .i64 a, .int .i64 b, .int .i64 c, .int .i64 d, .int .i64 e, .int .i64 f] 39)).alloc (by simp) (.cells #[.int .i64 a, .int .i64 b, .int .i64 c, .int .i64 d, .int .i64 e, .int .i64 f] 3)
  have hs0 := SlI.of_blk b0 [a, b, c, d, e, f] rfl (by simp) (by
    intro y hy
    simp only [List.mem_cons, List.not_mem_nil, or_false] at hy
    rcases hy with rfl | rfl | rfl | rfl | rfl | rfl <;> assumption)
  rw [World.size_alloc] at hs0
  have hlen : [a, b, c, d, e, f].length = 6 := rfl
  rw [hlen] at hs0
  go_enter Try.func22, Try.ntmps22
  go_wp2_with fail
  generalize (w.alloc (.cells #[.int .i64 a, .int .i64 b, .int .i64 c, .int .i64 d, .int .i64 e, .int .i64 f] 39)).alloc (.cells #[.int .i64 a, .int .i64 b, .int .i64 c, .int .i64 d, .int .i64 e, .int .i64 f] 3) = w0 at hs0 hb0 ⊢
  generalize [a, b, c, d, e, f] = L at hs0 HB hlen
  clear b0
  have hz0 := hb0.size
  go_loopw [4, 5] (fun v i wr => ∃ k : Nat, k ≤ 6 ∧ i = .int .i64 k ∧ wr.ownsRow w0.heap.size 5 1 v (ints (L.take k)).length ((ints (L.take k)).map bv) ∧ Below w0.heap.size w0 wr) (fun _ i _ => 6 - (intOf i).toNat)
  case atStart => exact ⟨0, by omega, rfl, World.ownsRow_nil _ _ _ _, Below.refl _ _⟩
  case round =>
    obtain ⟨k, hk, rfl, hown, hbw⟩ := hrel
    have hzr := hbw.size
    by_cases hlt : k < 6
    · have hsr := hs0.keep hbw
      obtain ⟨g, o, e0, hg, hck⟩ := hsr.at_ hlt
      cases e0
      rw [Nat.zero_add] at hck
      have hi := hs0.rng k
      have hil := vint_len (at0 L k)
      have HT : Hid (ints (L.take (k + 1)) = ints (L.take k) ++ vint (at0 L k)) := by unfold Hid; rw [take_snocI L k (by omega), ints_snoc]
      have hll := ints_len (L.take k)
      rw [List.length_take, hlen] at hll
      go_wp2_with fail
      refine (refInt_any hi).mono ?_
      rintro ee w2 ⟨v2, rfl, hown2, hb2⟩
      obtain ⟨A2, c2, rfl, hs2, -⟩ := SlB.of_own hown2
      have hownA := own_below hown hb2
      have hz2 := hb2.size
      go_wp2_with (at_builtin; refine wpList_appB w2 (by rfl) _ _ (by rfl) w0.heap.size _ _ _ (by rfl) hownA A2 _ c2 _ hs2 hil.1 (by rfl) (by omega) (by omega) ?_; intro v' w3 hown3 hf3 hat3)
      exact ⟨⟨k + 1, by omega, by go_num, by rw [HT.out, List.length_append]; exact hown3, (hbw.trans (hb2.mono hzr)).trans (hf3.below (fun g hg h => own_ne hown hg h.symm) (by omega))⟩, by simp [intOf]; omega⟩
    · obtain rfl : k = 6 := by omega
      have HT : Hid (L.take 6 = L) := List.take_of_length_le (by omega)
      rw [HT.out] at hown
      go_wp2_with fail
      go_ret
      exact ⟨_, rfl, by rw [HB.out]; exact own_mono hown hz0, hb0.trans (hbw.mono hz0)⟩
end Go.Proofs.Ytjjmnkhlcgjfmaa
