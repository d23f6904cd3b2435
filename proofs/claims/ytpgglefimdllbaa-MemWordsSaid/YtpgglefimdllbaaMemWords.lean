/- The law MemWords returns true whatever the input. -/
import Derived.Test.YtpgglefimdllbaaMemWorks
namespace Go.Proofs.Ytpgglefimdllbaa
open Go.RowKit
set_option maxRecDepth 100000 in
set_option maxHeartbeats 1600000 in
theorem memWords_law {w : World} (b : Nat) (hb : b < 65536) (a : Nat) (ha : a < 256) (n : Int) (hn : i64 n) :
    Calls Try.prog 3 #[.int .u16 (b : Int), .int .u8 (a : Int), .int .i64 n] w fun e w' => e = .returned (.bool true) ∧ Below w.heap.size w w' := by
  have hs1 := sg_one w ⟨(b : Int), 64, true⟩
  have hb1 := (Below.refl w.heap.size w).alloc (Nat.le_refl _) (.cells #[.int .i64 (b : Int), .int .i64 64, .bool true] 26)
  have hzl : (z0 ⟨(b : Int), 64, true⟩).length = 64 := rfl
  have hP : Hid (a ≤ 60 → storeR [⟨(b : Int), 64, true⟩] [z0 ⟨(b : Int), 64, true⟩] ((b : Int) + a) (putB n) = ([splice (z0 ⟨(b : Int), 64, true⟩) ((b : Int) + a - b).toNat (putB n)], true) ∧ loadR [⟨(b : Int), 64, true⟩] [splice (z0 ⟨(b : Int), 64, true⟩) ((b : Int) + a - b).toNat (putB n)] ((b : Int) + a) 4 = (putB n, true)) := fun h => by
    refine put_got (s := ⟨(b : Int), 64, true⟩) rfl ?_
    unfold ofB
    rw [Bool.and_eq_true, hasB_iff, hzl]
    refine ⟨?_, rfl⟩
    show (0 : Int) ≤ (4 : Nat) ∧ (b : Int) ≤ b + a ∧ (b : Int) + a - b ≤ (64 : Nat) ∧ ((4 : Nat) : Int) ≤ (64 : Nat) - ((b : Int) + a - b)
    omega
  have hQ : Hid (¬ a ≤ 60 → storeR [⟨(b : Int), 64, true⟩] [z0 ⟨(b : Int), 64, true⟩] ((b : Int) + a) (putB n) = ([z0 ⟨(b : Int), 64, true⟩], false) ∧ loadR [⟨(b : Int), 64, true⟩] [z0 ⟨(b : Int), 64, true⟩] ((b : Int) + a) 4 = ([], false)) := fun h => by
    refine put_none (s := ⟨(b : Int), 64, true⟩) (b := putB n) (hasB_no ?_)
    rw [hzl]
    show ¬ ((0 : Int) ≤ (4 : Nat) ∧ (b : Int) ≤ b + a ∧ (b : Int) + a - b ≤ (64 : Nat) ∧ ((4 : Nat) : Int) ≤ (64 : Nat) - ((b : Int) + a - b))
    omega
  have hv := Lib.hid (val4_putB n)
  have hwi : i64 ((b : Int) + a) := by unfold i64; omega
  have hu1 : IntKind.u32.wrap (IntKind.u64.wrap n) = n % 4294967296 := by
    rw [IntKind.wrap_u64, IntKind.wrap_u32']
    omega
  go_enter Try.func3, Try.ntmps3
  go_wp2_with fail
  generalize w.alloc (.cells #[.int .i64 (b : Int), .int .i64 64, .bool true] 26) = w1 at hs1 hb1 ⊢
  refine (newM_any hs1 (by intro s hs; simp at hs; subst hs; exact ⟨by unfold i64; simp only; omega, by unfold i64; simp only; omega⟩)).mono ?_
  rintro e w2 ⟨rfl, ⟨A, c, PQ, hm2⟩, hb2⟩
  have hB2 := hb1.trans (hb2.mono hb1.size)
  have hg1 : w.heap.size ≤ w1.heap.size := hb1.size
  generalize w1.heap.size = g at hm2 hg1 ⊢
  rw [show ([(⟨(b : Int), 64, true⟩ : Sg)].take 4) = [⟨(b : Int), 64, true⟩] from rfl, show ([(⟨(b : Int), 64, true⟩ : Sg)].map z0) = [z0 ⟨(b : Int), 64, true⟩] from rfl] at hm2
  go_wp2_with fail
  refine (put_any hm2 (a := (b : Int) + a) (n := n) hwi hn).mono ?_
  rintro e w3 ⟨rfl, hm3, f3⟩
  have hB3 := hB2.trans (f3.below (B := w.heap.size) (fun k hk h => by have h : g ≤ k := h; omega) hB2.size)
  by_cases h60 : a ≤ 60
  · obtain ⟨hst, hld⟩ := hP.out h60
    rw [hst] at hm3 ⊢
    simp only at hm3 ⊢
    have h60' : decide ((a : Int) ≤ 60) = true := by simp; omega
    clear hP hQ hst
    go_wp2_with fail
    refine (word_any hm3 (a := (b : Int) + a) hwi).mono ?_
    rintro e w4 ⟨rfl, hb4⟩
    rw [hld]
    simp only
    rw [hv.out]
    have hB4 := hB3.trans (hb4.mono hB3.size)
    clear hld
    go_wp2_with fail
    refine (works_any _).mono ?_
    rintro e w5 ⟨rfl, hb5⟩
    go_wp2_with fail
    go_ret
    exact ⟨rfl, hB4.trans (hb5.mono hB4.size)⟩
  · obtain ⟨hst, hld⟩ := hQ.out h60
    rw [hst] at hm3 ⊢
    simp only at hm3 ⊢
    have h60' : decide ((a : Int) ≤ 60) = false := by simp; omega
    clear hP hQ hst
    go_wp2_with fail
    refine (word_any hm3 (a := (b : Int) + a) hwi).mono ?_
    rintro e w4 ⟨rfl, hb4⟩
    rw [hld]
    simp only [val4]
    have hB4 := hB3.trans (hb4.mono hB3.size)
    clear hld
    go_wp2_with fail
    refine (works_any _).mono ?_
    rintro e w5 ⟨rfl, hb5⟩
    go_wp2_with fail
    go_ret
    exact ⟨rfl, hB4.trans (hb5.mono hB4.size)⟩
end Go.Proofs.Ytpgglefimdllbaa
