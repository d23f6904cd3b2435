/- Words, and the law file's own check. -/
import Derived.Test.YtfdnfjcaaagkgaaMonWalks
namespace Go.Proofs.Ytfdnfjcaaagkgaa
open Go.RowKit
def pick5 (n : Int) (a b c d e : ByteArray) : ByteArray := if n = 0 then a else if n = 1 then b else if n = 2 then c else if n = 3 then d else if n = 4 then e else ⟨#[]⟩
theorem pick_no {n : Int} (h : isB n = false) (a b c d e : ByteArray) : pick5 n a b c d e = ⟨#[]⟩ := by
  have h' : ¬ (0 ≤ n ∧ n < 5) := fun k => by rw [isB_iff.2 k] at h; cases h
  unfold pick5
  rw [if_neg (by omega), if_neg (by omega), if_neg (by omega), if_neg (by omega), if_neg (by omega)]
theorem isB_cases (n : Int) : isB n = false ∨ n = 0 ∨ n = 1 ∨ n = 2 ∨ n = 3 ∨ n = 4 := by
  cases h : isB n with
  | false => exact .inl rfl
  | true => have := isB_iff.1 h; exact .inr (by omega)
theorem word_any {w : World} (n : Int) (a b c d e : ByteArray) :
    Calls Try.prog 21 #[.int .i64 n, .agg #[.string a, .string b, .string c, .string d, .string e]] w fun x w' => x = .returned (.string (pick5 n a b c d e)) ∧ Below w.heap.size w w' := by
  have hb := (Below.refl w.heap.size w).alloc (Nat.le_refl _) (.cells #[.string a, .string b, .string c, .string d, .string e] 50)
  rcases isB_cases n with h | rfl | rfl | rfl | rfl | rfl
  · have HP := Lib.hid (pick_no h a b c d e)
    go_enter Try.func21, Try.ntmps21
    go_wp2_with fail
    refine is_any.mono ?_
    rintro x w2 ⟨rfl, rfl⟩
    rw [h]
    go_wp2_with fail
    go_ret
    exact ⟨by rw [HP.out]; rfl, hb⟩
  all_goals
    go_enter Try.func21, Try.ntmps21
    go_wp2_with fail
    refine is_any.mono ?_
    rintro x w2 ⟨rfl, rfl⟩
    simp only [isB]
    go_wp2_with fail
    go_ret
    exact ⟨rfl, hb⟩
def nameS (n : Int) : ByteArray := pick5 n ⟨#[111, 118, 101, 114, 114, 117, 110]⟩ ⟨#[98, 97, 100, 45, 99, 97, 108, 108]⟩ ⟨#[98, 97, 100, 45, 112, 111, 105, 110, 116, 101, 114]⟩ ⟨#[97, 112, 112, 45, 101, 114, 114, 111, 114]⟩ ⟨#[109, 105, 115, 115, 101, 100]⟩
theorem name_any {w : World} (n : Int) :
    Calls Try.prog 15 #[.int .i64 n] w fun x w' => x = .returned (.string (nameS n)) ∧ Below w.heap.size w w' := by
  go_enter Try.func15, Try.ntmps15
  go_wp2_with fail
  refine (word_any n _ _ _ _ _).mono ?_
  rintro x w2 ⟨rfl, hb⟩
  go_wp2_with fail
  go_ret
  exact ⟨rfl, hb⟩
theorem nameRef_any {w : World} (n : Int) :
    Calls Try.prog 16 #[.int .i64 n] w fun x w' => x = .returned (.string (nameS n)) ∧ w = w' := by
  rcases isB_cases n with h | rfl | rfl | rfl | rfl | rfl
  · have HP : Hid (nameS n = ⟨#[]⟩) := pick_no h _ _ _ _ _
    have h' : ¬ (0 ≤ n ∧ n < 5) := fun k => by rw [isB_iff.2 k] at h; cases h
    have h0 : (n == 0) = false := by simp; omega
    have h1 : (n == 1) = false := by simp; omega
    have h2 : (n == 2) = false := by simp; omega
    have h3 : (n == 3) = false := by simp; omega
    have h4 : (n == 4) = false := by simp; omega
    clear h h'
    go_enter Try.func16, Try.ntmps16
    go_wp2_with fail
    go_ret
    exact ⟨by rw [HP.out]; rfl, rfl⟩
  all_goals
    go_enter Try.func16, Try.ntmps16
    go_wp2_with fail
    go_ret
    exact ⟨rfl, rfl⟩
def actS (n : Int) : ByteArray := pick5 n ⟨#[105, 103, 110, 111, 114, 101]⟩ ⟨#[115, 116, 111, 112]⟩ ⟨#[114, 101, 115, 116, 97, 114, 116]⟩ ⟨#[114, 101, 115, 116, 97, 114, 116, 45, 112, 97, 114, 116, 105, 116, 105, 111, 110]⟩ ⟨#[105, 100, 108, 101, 45, 112, 97, 114, 116, 105, 116, 105, 111, 110]⟩
theorem act_any {w : World} (n : Int) :
    Calls Try.prog 17 #[.int .i64 n] w fun x w' => x = .returned (.string (actS n)) ∧ Below w.heap.size w w' := by
  go_enter Try.func17, Try.ntmps17
  go_wp2_with fail
  refine (word_any n _ _ _ _ _).mono ?_
  rintro x w2 ⟨rfl, hb⟩
  go_wp2_with fail
  go_ret
  exact ⟨rfl, hb⟩
theorem actRef_any {w : World} (n : Int) :
    Calls Try.prog 18 #[.int .i64 n] w fun x w' => x = .returned (.string (actS n)) ∧ w = w' := by
  rcases isB_cases n with h | rfl | rfl | rfl | rfl | rfl
  · have HP : Hid (actS n = ⟨#[]⟩) := pick_no h _ _ _ _ _
    have h' : ¬ (0 ≤ n ∧ n < 5) := fun k => by rw [isB_iff.2 k] at h; cases h
    have h0 : (n == 0) = false := by simp; omega
    have h1 : (n == 1) = false := by simp; omega
    have h2 : (n == 2) = false := by simp; omega
    have h3 : (n == 3) = false := by simp; omega
    have h4 : (n == 4) = false := by simp; omega
    clear h h'
    go_enter Try.func18, Try.ntmps18
    go_wp2_with fail
    go_ret
    exact ⟨by rw [HP.out]; rfl, rfl⟩
  all_goals
    go_enter Try.func18, Try.ntmps18
    go_wp2_with fail
    go_ret
    exact ⟨rfl, rfl⟩

set_option maxRecDepth 100000 in
theorem works_any (w : World) : Calls Try.prog 7 #[] w fun e w' => e = .returned (.bool true) ∧ Below w.heap.size w w' := by
  have b1 := Blk.new w 3 #[.int .i64 0, .int .i64 1]
  have hb := (Below.refl w.heap.size w).alloc (Nat.le_refl _) (.cells #[.int .i64 0, .int .i64 1] 3)
  have hs := SlI.of_blk b1 [0, 1] rfl (by decide) (by intro x hx; simp only [List.mem_cons, List.not_mem_nil, or_false] at hx; unfold i64; omega)
  go_enter Try.func7, Try.ntmps7
  go_wp2_with fail
  generalize w.alloc (.cells #[.int .i64 0, .int .i64 1] 3) = w0 at b1 hb hs ⊢
  refine (new_any hs).mono ?_
  rintro e w1 ⟨rfl, hm1, hb1⟩
  have hB1 := hb.trans (hb1.mono hb.size)
  generalize hg : w0.heap.size = g at hm1 hB1 ⊢
  have hgw : ¬ g < w.heap.size := by have := hb.size; omega
  clear hg hb1
  go_wp2_with fail
  refine (fault_yes (f := ⟨1, 7⟩) hm1 (by decide) (by decide)).mono ?_
  rintro e w2 ⟨rfl, hm2, hf2⟩
  rw [show rAct [0, 1] 1 = 1 by decide]
  go_wp2_with fail
  refine (fault_yes (f := ⟨2, 8⟩) hm2 (by decide) (by decide)).mono ?_
  rintro e w3 ⟨rfl, hm3, hf3⟩
  rw [show rAct [0, 1] 2 = 0 by decide]
  go_wp2_with fail
  refine (last_any hm3).mono ?_
  rintro e w4 ⟨rfl, q, rfl⟩
  rw [show lastK ([] ++ [⟨1, 7⟩] ++ [⟨2, 8⟩]) = 2 by decide, show lastP ([] ++ [⟨1, 7⟩] ++ [⟨2, 8⟩]) = 8 by decide]
  have hm4 : MonSt (w3.drewN q) g _ _ := hm3
  go_wp2_with fail
  refine (total_any hm4 (by decide) (by decide)).mono ?_
  rintro e w5 ⟨rfl, rfl⟩
  rw [show (([] ++ [⟨1, 7⟩] ++ [⟨2, 8⟩] : List Flt).length : Int) = 2 by decide]
  go_wp2_with fail
  refine (name_any 0).mono ?_
  rintro e w6 ⟨rfl, hb6⟩
  rw [show nameS 0 = ⟨#[111, 118, 101, 114, 114, 117, 110]⟩ from rfl]
  go_wp2_with fail
  go_ret
  have hB3 : Below w.heap.size w w3 := (hB1.trans (hf2.below (fun k hk h => by omega) hB1.size)).trans (hf3.below (fun k hk h => by omega) (by have := hB1.size; have := hf2.size; omega))
  exact ⟨rfl, (below_drewN hB3 q).trans (hb6.mono hB3.size)⟩
end Go.Proofs.Ytfdnfjcaaagkgaa
