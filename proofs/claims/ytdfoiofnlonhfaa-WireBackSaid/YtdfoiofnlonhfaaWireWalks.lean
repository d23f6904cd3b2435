/- The walks of the writer of lists, and the document's; writers and readers that are not there. -/
import Derived.Test.YtdfoiofnlonhfaaRdList
import Derived.Test.YtdfoiofnlonhfaaEvInts
namespace Go.Proofs.Ytdfoiofnlonhfaa
open Go.RowKit
theorem Wrt.fr {w w' : World} {g base : Nat} {l : List UInt8} {S : Nat → Prop} (h : Wrt w g base l) (hb : Fr S w w') (hS : ∀ k, S k → w.heap.size ≤ k) : Wrt w' g base l :=
  h.keep (hb.below (fun k hk h => by have := hS k h; omega) (Nat.le_refl _))
theorem putInt_any {w : World} {g base : Nat} {l : List UInt8} (h : Wrt w g base l) (hl : l.length ≤ 999900) {n : Int} (hn : i64 n) :
    Calls Try.prog 11 #[.pointer (some ⟨g, 0, none⟩), .int .i64 n] w fun e w' => e = .returned (.tuple #[]) ∧ Wrt w' g base (l ++ vint n) ∧ Fr (fun k => k = g ∨ base ≤ k) w w' := by
  go_enter Try.func11, Try.ntmps11
  go_wp2_with fail
  refine (writeInt_any h hl hn).mono ?_
  rintro e w2 ⟨rfl, h2, hf2⟩
  go_wp2_with fail
  go_end0
  exact ⟨rfl, h2, hf2⟩
/-- a list's bytes -/
def vlist (l : List Int) : List UInt8 := vint l.length ++ ints l
set_option maxRecDepth 100000 in
set_option maxHeartbeats 1000000 in
theorem putList_any {w : World} {g base : Nat} {l : List UInt8} (h : Wrt w g base l) (hl : l.length ≤ 900000) {A : Option Addr} {n c : Nat} {ns : List Int} (hs : SlI w A n c ns) (hn : n ≤ 5000) (hA : ∀ b o, 0 < n → A = some ⟨b, o, none⟩ → b < base ∧ b ≠ g) :
    Calls Try.prog 10 #[.pointer (some ⟨g, 0, none⟩), .slice A n c, .func (.func 11) #[] #[]] w fun e w' => e = .returned (.tuple #[]) ∧ Wrt w' g base (l ++ vlist ns) ∧ Fr (fun k => k = g ∨ base ≤ k) w w' := by
  have hnl := hs.2.1
  have hv := vint_len (n : Int)
  have HV : Hid (l ++ vlist ns = (l ++ vint n) ++ ints ns) := by unfold Hid vlist; rw [hnl, List.append_assoc]
  go_enter Try.func10, Try.ntmps10
  go_wp2_with fail
  refine (writeInt_any h (by omega) (n := (n : Int)) (by unfold i64; omega)).mono ?_
  rintro e w2 ⟨rfl, h2, hf2⟩
  go_wp2_with fail
  go_loopw [16] (fun i wr => ∃ k : Nat, k ≤ n ∧ i = .int .i64 k ∧ Wrt wr g base ((l ++ vint n) ++ ints (ns.take k)) ∧ Fr (fun k => k = g ∨ base ≤ k) w wr) (fun i _ => n - (intOf i).toNat)
  case atStart => exact ⟨0, by omega, rfl, by simpa [ints] using h2, hf2⟩
  case round =>
    obtain ⟨k, hk, rfl, hw, hfw⟩ := hrel
    by_cases hlt : k < n
    · have hsw : SlI wr A n c ns := ⟨hs.1.fr hfw (fun b o hp e h => by have := hA b o hp e; omega), hs.2⟩
      obtain ⟨b, o, rfl, hb, hck⟩ := hsw.at_ hlt
      have hi := hs.rng k
      have HT : Hid (ints (ns.take (k + 1)) = ints (ns.take k) ++ vint (at0 ns k)) := by unfold Hid; rw [take_snocI ns k (by omega), ints_snoc]
      have hll := ints_len (ns.take k)
      rw [List.length_take] at hll
      generalize at0 ns k = x at hck hi HT
      go_wp2_with fail
      refine (putInt_any hw (by simp only [List.length_append]; omega) hi).mono ?_
      rintro e w3 ⟨rfl, h3, hf3⟩
      go_wp2_with fail
      exact ⟨⟨k + 1, by omega, by go_num, by rw [HT.out, ← List.append_assoc]; exact h3, hfw.trans hf3⟩, by simp [intOf]; omega⟩
    · obtain rfl : k = n := by omega
      have HT : Hid (ns.take k = ns) := List.take_of_length_le (by omega)
      rw [HT.out] at hw
      go_wp2_with fail
      go_end0
      exact ⟨rfl, by rw [HV.out]; exact hw, hfw⟩
def vbool (b : Bool) : List UInt8 := [if b then 1 else 0]
theorem writeBool_any {w : World} {g base : Nat} {l : List UInt8} (h : Wrt w g base l) (hl : l.length ≤ 999900) (b : Bool) :
    Calls Try.prog 9 #[.pointer (some ⟨g, 0, none⟩), .bool b] w fun e w' => e = .returned (.tuple #[]) ∧ Wrt w' g base (l ++ vbool b) ∧ Fr (fun k => k = g ∨ base ≤ k) w w' := by
  have hgl : g < w.heap.size := by obtain ⟨v, h1, _⟩ := h; exact h1.lt
  cases b with
  | true =>
    go_enter Try.func9, Try.ntmps9
    go_wp2_with fail
    refine (put_any h (by omega) 1).mono ?_
    rintro e w3 ⟨rfl, h3, hf3⟩
    go_wp2_with fail
    go_end0
    exact ⟨rfl, h3, hf3⟩
  | false =>
    go_enter Try.func9, Try.ntmps9
    go_wp2_with fail
    refine (put_any h (by omega) 0).mono ?_
    rintro e w3 ⟨rfl, h3, hf3⟩
    go_wp2_with fail
    go_end0
    exact ⟨rfl, h3, hf3⟩
end Go.Proofs.Ytdfoiofnlonhfaa
