/- The document's Bool and Ints; writers and readers that are not there; the law file's own check. -/
import Derived.Test.YtdfoiofnlonhfaaWireWalks
import Derived.Test.YtdfoiofnlonhfaaRdLaw
namespace Go.Proofs.Ytdfoiofnlonhfaa
open Go.RowKit
theorem slI_own {w : World} {base : Nat} {e : TypeId} {v : Value} {n : Nat} {l : List Int} (h : w.ownsRow base e 1 v n (l.map (Value.int .i64))) (hr : ∀ x ∈ l, i64 x) : ∃ A c, v = .slice A n c ∧ SlI w A n c l ∧ ∀ b o, A = some ⟨b, o, none⟩ → base ≤ b := by
  obtain ⟨A, c, hv, hs, hb⟩ := Sl.of_own h
  exact ⟨A, c, hv, ⟨hs, by have := hs.1; simpa using this, hr⟩, hb⟩
theorem refBool_any {w : World} (b : Bool) :
    Calls Try.prog 13 #[.bool b] w fun e w' => ∃ A c, e = .returned (.slice A 1 c) ∧ SlB w' A 1 c (vbool b) ∧ Below w.heap.size w w' := by
  cases b with
  | true =>
    have hb := Blk.new w 5 #[.int .u8 1]
    go_enter Try.func13, Try.ntmps13
    go_wp2_with fail
    go_ret
    exact ⟨_, _, rfl, SlB.of_blk hb (vbool true) rfl (by decide), (Below.refl _ _).alloc (Nat.le_refl _) _⟩
  | false =>
    have hb := Blk.new w 5 #[.int .u8 0]
    go_enter Try.func13, Try.ntmps13
    go_wp2_with fail
    go_ret
    exact ⟨_, _, rfl, SlB.of_blk hb (vbool false) rfl (by decide), (Below.refl _ _).alloc (Nat.le_refl _) _⟩
set_option maxRecDepth 100000 in
theorem refInts_any {w : World} {A : Option Addr} {n c : Nat} {l : List Int} (h : SlI w A n c l) (hn : n ≤ 5000) :
    Calls Try.prog 14 #[.slice A n c] w fun e w' => ∃ v, e = .returned v ∧ w'.ownsRow w.heap.size 5 1 v (vlist l).length ((vlist l).map bv) ∧ Below w.heap.size w w' := by
  have hln := h.2.1
  have hv := vint_len (n : Int)
  have HV : Hid (vlist l = vint n ++ ints l) := by unfold Hid vlist; rw [hln]
  go_enter Try.func14, Try.ntmps14
  go_wp2_with fail
  refine (refInt_any (n := (n : Int)) (by unfold i64; omega)).mono ?_
  rintro e w2 ⟨v2, rfl, hown2, hb2⟩
  go_wp2_with fail
  go_loopw [3, 4] (fun v i wr => ∃ k : Nat, k ≤ n ∧ i = .int .i64 k ∧ wr.ownsRow w.heap.size 5 1 v (vint n ++ ints (l.take k)).length ((vint n ++ ints (l.take k)).map bv) ∧ Below w.heap.size w wr) (fun _ i _ => n - (intOf i).toNat)
  case atStart => exact ⟨0, by omega, rfl, by simpa [ints] using hown2, hb2⟩
  case round =>
    obtain ⟨k, hk, rfl, hown, hbw⟩ := hrel
    have hzr := hbw.size
    by_cases hlt : k < n
    · obtain ⟨b, o, rfl, hb, hck⟩ := (h.keep hbw).at_ hlt
      have hi := h.rng k
      have hil := vint_len (at0 l k)
      have HT : Hid (ints (l.take (k + 1)) = ints (l.take k) ++ vint (at0 l k)) := by unfold Hid; rw [take_snocI l k (by omega), ints_snoc]
      have hll := ints_len (l.take k)
      rw [List.length_take] at hll
      generalize at0 l k = x at hck hi hil HT
      go_wp2_with fail
      refine (refInt_any hi).mono ?_
      rintro ee w2 ⟨v2, rfl, hown2, hb2⟩
      obtain ⟨A2, c2, rfl, hs2, -⟩ := SlB.of_own hown2
      have hownA := own_below hown hb2
      have hz2 := hb2.size
      have hlen : (vint (n : Int) ++ ints (l.take k)).length ≤ 900000 := by rw [List.length_append]; omega
      go_wp2_with (at_builtin; refine wpList_appB w2 (by rfl) _ _ (by rfl) w.heap.size _ _ _ (by rfl) hownA A2 _ c2 _ hs2 hil.1 (by rfl) (by omega) (by omega) ?_; intro v' w3 hown3 hf3 hat3)
      exact ⟨⟨k + 1, by omega, by go_num, by rw [HT.out, ← List.append_assoc, List.length_append]; exact hown3, (hbw.trans (hb2.mono hzr)).trans (hf3.below (fun g hg h => own_ne hown hg h.symm) (by omega))⟩, by simp [intOf]; omega⟩
    · obtain rfl : k = n := by omega
      have HT : Hid (l.take k = l) := List.take_of_length_le (by omega)
      rw [HT.out] at hown
      go_wp2_with fail
      go_ret
      exact ⟨_, rfl, by rw [HV.out]; exact hown, hbw⟩
theorem writeInt_nil {w : World} (x : Value) : Calls Try.prog 8 #[.pointer none, x] w fun e w' => e = .returned (.tuple #[]) ∧ w = w' := by
  go_enter Try.func8, Try.ntmps8
  go_wp2_with fail
  refine bodyPost_ret (v := .tuple #[]) (results_none rfl _ _ _) rfl ⟨rfl, rfl⟩
theorem writeBool_nil {w : World} (x : Value) : Calls Try.prog 9 #[.pointer none, x] w fun e w' => e = .returned (.tuple #[]) ∧ w = w' := by
  go_enter Try.func9, Try.ntmps9
  go_wp2_with fail
  go_end0
  exact ⟨rfl, rfl⟩
theorem putList_nil {w : World} (x y : Value) : Calls Try.prog 10 #[.pointer none, x, y] w fun e w' => e = .returned (.tuple #[]) ∧ w = w' := by
  go_enter Try.func10, Try.ntmps10
  go_wp2_with fail
  refine bodyPost_ret (v := .tuple #[]) (results_none rfl _ _ _) rfl ⟨rfl, rfl⟩
theorem writerBytes_nil {w : World} : Calls Try.prog 15 #[.pointer none] w fun e w' => e = .returned (.slice none 0 0) ∧ w = w' := by
  go_enter Try.func15, Try.ntmps15
  go_wp2_with fail
  go_ret
  exact ⟨rfl, rfl⟩
theorem rdInt_nil {w : World} : Calls Try.prog 20 #[.pointer none] w fun e w' => e = .returned (.int .i64 0) ∧ w = w' := by
  go_enter Try.func20, Try.ntmps20
  go_wp2_with fail
  go_ret
  exact ⟨rfl, rfl⟩
theorem rdBool_nil {w : World} : Calls Try.prog 21 #[.pointer none] w fun e w' => e = .returned (.bool false) ∧ w = w' := by
  go_enter Try.func21, Try.ntmps21
  go_wp2_with fail
  go_ret
  exact ⟨rfl, rfl⟩
theorem err_nil {w : World} : Calls Try.prog 22 #[.pointer none] w fun e w' => e = .returned (.int .i64 1) ∧ w = w' := by
  go_enter Try.func22, Try.ntmps22
  go_wp2_with fail
  go_ret
  exact ⟨rfl, rfl⟩
theorem end_nil {w : World} : Calls Try.prog 19 #[.pointer none] w fun e w' => e = .returned (.int .i64 1) ∧ w = w' := by
  go_enter Try.func19, Try.ntmps19
  go_wp2_with fail
  refine err_nil.mono ?_
  rintro e w2 ⟨rfl, rfl⟩
  go_wp2_with fail
  go_ret
  exact ⟨rfl, rfl⟩
theorem list_nil {w : World} (x y : Value) : Calls Try.prog 17 #[.pointer none, x, y] w fun e w' => e = .returned (.slice none 0 0) ∧ w = w' := by
  go_enter Try.func17, Try.ntmps17
  go_wp2_with fail
  go_ret
  exact ⟨rfl, rfl⟩
theorem bytes_str {w : World} {A : Option Addr} {n c : Nat} {l : List UInt8} (h : SlB w A n c l) : (convert 25 9 (.slice A n c)).run Try.prog w = .ok (.string ⟨l.toArray⟩) w :=
  run_bytes_str _ _ 5 (by kernel_rfl) (by kernel_rfl) (by kernel_rfl) h

set_option maxRecDepth 100000 in
theorem works_any (w : World) : Calls Try.prog 7 #[] w fun e w' => e = .returned (.bool true) ∧ Below w.heap.size w w' := by
  have hw0 := Wrt.new w
  have hb0 := (Below.refl w.heap.size w).alloc (Nat.le_refl _) (.cells #[.slice none 0 0] 29)
  have hz0 : w.heap.size < (w.alloc (.cells #[.slice none 0 0] 29)).heap.size := by simp
  go_enter Try.func7, Try.ntmps7
  go_wp2_with fail
  generalize w.alloc (.cells #[.slice none 0 0] 29) = w0 at hw0 hb0 hz0 ⊢
  refine (writeInt_any hw0 (by decide) (n := -1) (by unfold i64; omega)).mono ?_
  rintro e w1 ⟨rfl, hw1, hf1⟩
  go_wp2_with fail
  refine (writeInt_any hw1 (by decide) (n := 64) (by unfold i64; omega)).mono ?_
  rintro e w2 ⟨rfl, hw2, hf2⟩
  have hB2 : Below w.heap.size w w2 := hb0.trans ((hf1.trans hf2).below (fun k hk h => by omega) (by omega))
  rw [show [] ++ vint (-1) ++ vint 64 = [1, 128, 1] by decide] at hw2
  have hw3 := hw2.keep ((Below.refl w2.heap.size w2).alloc (Nat.le_refl _) (.cells #[.int .u8 1, .int .u8 128, .int .u8 1] 5))
  have hB3 := hB2.alloc hB2.size (.cells #[.int .u8 1, .int .u8 128, .int .u8 1] 5)
  have hs3 := SlB.of_blk (Blk.new w2 5 #[.int .u8 1, .int .u8 128, .int .u8 1]) [1, 128, 1] rfl (by decide)
  go_wp2_with fail
  generalize w2.alloc (.cells #[.int .u8 1, .int .u8 128, .int .u8 1] 5) = w3 at hw3 hB3 hs3 ⊢
  refine (read_any hs3 (by decide)).mono ?_
  rintro e w4 ⟨g, B, rfl, hr4, hg4, hb4⟩
  go_wp2_with fail
  refine (rdInt_any hr4).mono ?_
  rintro e w5 ⟨rfl, hr5, hf5⟩
  rw [show gInt ⟨[1, 128, 1], 0⟩ = (-1, ⟨[128, 1], 0⟩) from rfl] at hr5 ⊢
  go_wp2_with fail
  refine (rdInt_any hr5).mono ?_
  rintro e w6 ⟨rfl, hr6, hf6⟩
  rw [show gInt ⟨[128, 1], 0⟩ = (64, ⟨[], 0⟩) from rfl] at hr6 ⊢
  have hb6 : Below w3.heap.size w3 w6 := hb4.trans ((hf5.trans hf6).below (fun k hk h => by omega) hb4.size)
  have hw6 := hw3.keep hb6
  have hB6 := hB3.trans (hb6.mono hB3.size)
  go_wp2_with fail
  refine (writerBytes_any hw6 (by decide)).mono ?_
  rintro e w7 ⟨v7, rfl, hown7, hb7⟩
  obtain ⟨A7, c7, rfl, hs7, -⟩ := SlB.of_own hown7
  have hcv : (convert 25 9 (.slice A7 3 c7)).run Try.prog w7 = .ok (.string ⟨#[1, 128, 1]⟩) w7 := bytes_str hs7
  have hr7 := hr6.keep hb7
  go_wp2_with fail
  refine (end_any hr7).mono ?_
  rintro e w8 ⟨rfl, rfl⟩
  rw [show endS ⟨[], 0⟩ = 0 from rfl]
  go_wp2_with fail
  go_ret
  exact ⟨rfl, hB6.trans (hb7.mono hB6.size)⟩
end Go.Proofs.Ytdfoiofnlonhfaa
