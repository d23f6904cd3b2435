/- The walks of the reader of numbers (package wire), third part: Bool, End. -/
import Derived.Test.YtdfoiofnlonhfaaRdInt
namespace Go.Proofs.Ytdfoiofnlonhfaa
open Go.RowKit
set_option maxRecDepth 100000 in
theorem rdBool_any {w : World} {g B : Nat} {s : RS} (h : RdSt w g B s) :
    Calls Try.prog 21 #[.pointer (some ⟨g, 0, none⟩)] w fun x w' => x = .returned (.bool (gBool s).1) ∧ RdSt w' g B (gBool s).2 ∧ Fr (fun k => k = g) w w' := by
  have hz : (nxt s).1.toNat < 256 := u8_lt _
  have hG : (1 < (nxt s).1.toNat → gBool s = (false, errS (nxt s).2 12)) ∧ (¬ 1 < (nxt s).1.toNat → gBool s = (decide ((nxt s).1.toNat = 1), (nxt s).2)) := by
    obtain ⟨l, e⟩ := s
    by_cases h0 : e = 0
    · subst h0
      cases l with
      | nil => exact ⟨fun h => absurd h (by decide), fun _ => rfl⟩
      | cons y r =>
        rw [show nxt ⟨y :: r, 0⟩ = (y, ⟨r, 0⟩) from rfl]
        refine ⟨fun h => ?_, fun h => ?_⟩ <;> unfold gBool
        · simp only [ne_eq, not_true_eq_false, if_false]; rw [if_pos h]; rfl
        · simp only [ne_eq, not_true_eq_false, if_false]; rw [if_neg h]
    · have e1 : nxt ⟨l, e⟩ = (0, ⟨l, e⟩) := by unfold nxt; rw [if_neg h0]
      have e2 : gBool ⟨l, e⟩ = (false, ⟨l, e⟩) := by unfold gBool; rw [if_pos h0]
      rw [e1, e2]
      exact ⟨fun h => absurd h (by simp), fun _ => rfl⟩
  have HG := Lib.hid hG
  clear hG
  go_enter Try.func21, Try.ntmps21
  go_wp2_with fail
  refine (next_any h).mono ?_
  rintro x w2 ⟨rfl, hr2, hf2⟩
  generalize (nxt s).1.toNat = z at hz HG ⊢
  generalize (nxt s).2 = s2 at hr2 HG
  by_cases hlt : 1 < z
  · have HG2 := Lib.hid (HG.out.1 hlt)
    have t1 : ((z : Int) == 1) = false := by simp; omega
    clear HG
    go_wp2_with fail
    refine (fail_any hr2 12).mono ?_
    rintro x w3 ⟨rfl, hr4, hf4⟩
    go_wp2_with fail
    go_ret
    exact ⟨by rw [HG2.out]; rfl, by rw [HG2.out]; exact hr4, hf2.trans hf4⟩
  · have HG2 := Lib.hid (HG.out.2 hlt)
    clear HG
    by_cases h1 : z = 1
    · have t1 : ((z : Int) == 1) = true := by simp; omega
      have HD : Hid (decide (z = 1) = true) := by simpa [Hid] using h1
      clear h1
      go_wp2_with fail
      go_ret
      exact ⟨by rw [HG2.out, HD.out]; rfl, by rw [HG2.out]; exact hr2, hf2⟩
    · have t1 : ((z : Int) == 1) = false := by simp; omega
      have HD : Hid (decide (z = 1) = false) := by simpa [Hid] using h1
      clear h1
      go_wp2_with fail
      go_ret
      exact ⟨by rw [HG2.out, HD.out]; rfl, by rw [HG2.out]; exact hr2, hf2⟩
def endS (s : RS) : Int := if s.e = 0 ∧ s.l ≠ [] then 11 else s.e
theorem end_any {w : World} {g B : Nat} {s : RS} (h : RdSt w g B s) :
    Calls Try.prog 19 #[.pointer (some ⟨g, 0, none⟩)] w fun x w' => x = .returned (.int .i64 (endS s)) ∧ w = w' := by
  have h' := h
  obtain ⟨A, n, c, h1, h2, h3⟩ := h
  have d0 : w.cell? ⟨g, 0, none⟩ = some (.slice A n c) := h1.cell 0
  have d1 : w.cell? ⟨g, 1, none⟩ = some (.int .i64 s.e) := h1.cell 1
  have hll := h2.2
  by_cases h0 : s.e = 0
  · have t0 : (s.e == 0) = true := by simpa using h0
    by_cases hn : 0 < n
    · have HE : Hid (endS s = 11) := by unfold Hid endS; rw [if_pos ⟨h0, fun e => by rw [e] at hll; simp at hll; omega⟩]
      clear h0 hll
      go_enter Try.func19, Try.ntmps19
      go_wp2_with fail
      go_ret
      exact ⟨by rw [HE.out]; rfl, rfl⟩
    · have HE : Hid (endS s = s.e) := by unfold Hid endS; rw [if_neg (fun k => k.2 (List.eq_nil_of_length_eq_zero (by omega)))]
      obtain rfl : n = 0 := by omega
      clear h0 hll
      go_enter Try.func19, Try.ntmps19
      go_wp2_with fail
      refine (err_any h').mono ?_
      rintro x w3 ⟨rfl, rfl⟩
      go_wp2_with fail
      go_ret
      exact ⟨by rw [HE.out]; rfl, rfl⟩
  · have t0 : (s.e == 0) = false := by simpa using h0
    have HE : Hid (endS s = s.e) := by unfold Hid endS; rw [if_neg (fun k => h0 k.1)]
    clear h0 hll
    go_enter Try.func19, Try.ntmps19
    go_wp2_with fail
    refine (err_any h').mono ?_
    rintro x w3 ⟨rfl, rfl⟩
    go_wp2_with fail
    go_ret
    exact ⟨by rw [HE.out]; rfl, rfl⟩
end Go.Proofs.Ytdfoiofnlonhfaa
