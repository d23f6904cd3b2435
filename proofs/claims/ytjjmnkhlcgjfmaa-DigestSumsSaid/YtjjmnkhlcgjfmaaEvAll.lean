/- Events' bytes, all of them: the document's. -/
import Derived.Test.YtjjmnkhlcgjfmaaEvWalks
namespace Go.Proofs.Ytjjmnkhlcgjfmaa
open Go.RowKit
def evC (x : Ev) : List Value := [.int .i64 x.a, .int .i64 x.b, .int .i64 x.c, .int .i64 x.d, .int .i64 x.e, .int .i64 x.f]
theorem evC_len (x : Ev) : (evC x).length = 6 := rfl
def evs (l : List Ev) : List Value := l.flatMap evC
theorem evs_len (l : List Ev) : (evs l).length = l.length * 6 := by
  induction l with
  | nil => rfl
  | cons x l ih => simp only [evs, List.flatMap_cons, List.length_append, evC_len, List.length_cons] at ih ⊢; omega
def ev0 : Ev := ⟨0, 0, 0, 0, 0, 0⟩
def atE (l : List Ev) (k : Nat) : Ev := l.getD k ev0
theorem atE_lt {l : List Ev} {k : Nat} (h : k < l.length) : atE l k = l[k] := by simp [atE, List.getD, h]
theorem evs_get (l : List Ev) (k j : Nat) (hk : k < l.length) (hj : j < 6) : (evs l)[k * 6 + j]? = (evC (atE l k))[j]? := by
  induction l generalizing k with
  | nil => simp at hk
  | cons x l ih =>
    cases k with
    | zero =>
      rw [show evs (x :: l) = evC x ++ evs l from rfl, List.getElem?_append_left (by rw [evC_len]; omega)]
      simp [atE]
    | succ k =>
      rw [show evs (x :: l) = evC x ++ evs l from rfl, List.getElem?_append_right (by rw [evC_len]; omega), evC_len, show (k + 1) * 6 + j - 6 = k * 6 + j by omega, ih k (by simpa using hk)]
      simp [atE]
/-- a slice of events -/
def SlE (w : World) (A : Option Addr) (n c : Nat) (l : List Ev) : Prop := Sl w A n c 6 (evs l) ∧ l.length = n ∧ ∀ x ∈ l, x.ok
section
variable {w w' : World} {A : Option Addr} {n c : Nat} {l : List Ev}
theorem SlE.keep (h : SlE w A n c l) (hb : Below w.heap.size w w') : SlE w' A n c l := ⟨h.1.keep hb, h.2⟩
theorem SlE.len (h : SlE w A n c l) : n ≤ 9223372036854775807 := h.1.len_le
theorem SlE.ok (h : SlE w A n c l) {k : Nat} (hk : k < n) : (atE l k).ok := by
  have : k < l.length := by rw [h.2.1]; exact hk
  rw [atE_lt this]
  exact h.2.2 _ (List.getElem_mem _)
theorem SlE.at_ (h : SlE w A n c l) {k : Nat} (hk : k < n) : ∃ b o, A = some ⟨b, o, none⟩ ∧ b < w.heap.size ∧
    w.cell? ⟨b, o + k * 6, none⟩ = some (.int .i64 (atE l k).a) ∧ w.cell? ⟨b, o + k * 6 + 1, none⟩ = some (.int .i64 (atE l k).b) ∧ w.cell? ⟨b, o + k * 6 + 2, none⟩ = some (.int .i64 (atE l k).c) ∧
    w.cell? ⟨b, o + k * 6 + 3, none⟩ = some (.int .i64 (atE l k).d) ∧ w.cell? ⟨b, o + k * 6 + 4, none⟩ = some (.int .i64 (atE l k).e) ∧ w.cell? ⟨b, o + k * 6 + 5, none⟩ = some (.int .i64 (atE l k).f) := by
  obtain ⟨b, o, e, hb, hc⟩ := h.1.at_ (by omega)
  have hl := h.2.1
  have hg : ∀ j, j < 6 → ∀ u, (evC (atE l k))[j]? = some u → w.cell? ⟨b, o + k * 6 + j, none⟩ = some u := fun j hj u hu => by
    rw [Nat.add_assoc]
    exact hc _ u (by rw [evs_get l k j (by omega) hj]; exact hu)
  exact ⟨b, o, e, hb, hg 0 (by decide) _ rfl, hg 1 (by decide) _ rfl, hg 2 (by decide) _ rfl, hg 3 (by decide) _ rfl, hg 4 (by decide) _ rfl, hg 5 (by decide) _ rfl⟩
end
/-- events' bytes -/
def allB (l : List Ev) : List UInt8 := l.flatMap evB
theorem allB_snoc (l : List Ev) (x : Ev) : allB (l ++ [x]) = allB l ++ evB x := by simp [allB]
theorem allB_len (l : List Ev) : (allB l).length ≤ 66 * l.length := by
  induction l with
  | nil => simp [allB]
  | cons x l ih =>
    have := evB_len x
    simp only [allB, List.flatMap_cons, List.length_append, List.length_cons] at ih ⊢
    omega
theorem take_snocE (l : List Ev) (k : Nat) (h : k < l.length) : l.take (k + 1) = l.take k ++ [atE l k] := by
  rw [List.take_succ_eq_append_getElem h, atE_lt h]

set_option maxRecDepth 100000 in
theorem refAll_any {w : World} {A : Option Addr} {n c : Nat} {l : List Ev} (h : SlE w A n c l) (hn : n ≤ 1000) :
    Calls Try.prog 20 #[.slice A n c] w fun e w' => ∃ v, e = .returned v ∧ w'.ownsRow w.heap.size 5 1 v (allB l).length ((allB l).map bv) ∧ Below w.heap.size w w' := by
  have hln := h.2.1
  go_enter Try.func20, Try.ntmps20
  go_wp2_with fail
  go_loopw [3, 4] (fun v i wr => ∃ k : Nat, k ≤ n ∧ i = .int .i64 k ∧ wr.ownsRow w.heap.size 5 1 v (allB (l.take k)).length ((allB (l.take k)).map bv) ∧ Below w.heap.size w wr) (fun _ i _ => n - (intOf i).toNat)
  case atStart => exact ⟨0, by omega, rfl, World.ownsRow_nil _ _ _ _, Below.refl _ _⟩
  case round =>
    obtain ⟨k, hk, rfl, hown, hbw⟩ := hrel
    have hzr := hbw.size
    by_cases hlt : k < n
    · obtain ⟨b, o, rfl, hb, h0, h1, h2, h3, h4, h5⟩ := (h.keep hbw).at_ hlt
      have hi := h.ok hlt
      have hil := evB_len (atE l k)
      have HT : Hid (allB (l.take (k + 1)) = allB (l.take k) ++ evB (atE l k)) := by unfold Hid; rw [take_snocE l k (by omega), allB_snoc]
      have hll := allB_len (l.take k)
      rw [List.length_take] at hll
      have hvv : (atE l k).v = .agg #[.int .i64 (atE l k).a, .int .i64 (atE l k).b, .int .i64 (atE l k).c, .int .i64 (atE l k).d, .int .i64 (atE l k).e, .int .i64 (atE l k).f] := rfl
      go_wp2_with fail
      refine (refBytes_any hi).mono ?_
      rintro ee w2 ⟨v2, rfl, hown2, hb2⟩
      obtain ⟨A2, c2, rfl, hs2, -⟩ := SlB.of_own hown2
      have hownA := own_below hown hb2
      have hz2 := hb2.size
      go_wp2_with (at_builtin; refine wpList_appB w2 (by rfl) _ _ (by rfl) w.heap.size _ _ _ (by rfl) hownA A2 _ c2 _ hs2 hil.1 (by rfl) (by omega) (by omega) ?_; intro v' w3 hown3 hf3 hat3)
      exact ⟨⟨k + 1, by omega, by go_num, by rw [HT.out, List.length_append]; exact hown3, (hbw.trans (hb2.mono hzr)).trans (hf3.below (fun g hg h => own_ne hown hg h.symm) (by omega))⟩, by simp [intOf]; omega⟩
    · obtain rfl : k = n := by omega
      have HT : Hid (l.take k = l) := List.take_of_length_le (by omega)
      rw [HT.out] at hown
      go_wp2_with fail
      go_ret
      exact ⟨_, rfl, hown, hbw⟩
end Go.Proofs.Ytjjmnkhlcgjfmaa
