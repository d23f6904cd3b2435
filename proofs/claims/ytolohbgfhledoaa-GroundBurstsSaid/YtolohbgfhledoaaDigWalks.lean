/- The walks of package digest: sums. -/
import Derived.Test.YtolohbgfhledoaaMix
import Derived.Test.YtolohbgfhledoaaDigSpec
import Derived.Test.YtolohbgfhledoaaProg
namespace Go.Proofs.Ytolohbgfhledoaa
open Go.RowKit
theorem u32_eq {a b : Int} (h : a = b) : Value.int .u32 a = Value.int .u32 b := by rw [h]
theorem stp_odd {q : Nat} (hq : q < 4294967296) (h : q % 2 = 1) : bits .xor .u32 ((q : Int) / 2) 3988292384 = ((stp q : Nat) : Int) := by
  have := u32_xor_nat (q / 2) 3988292384 (by omega) (by decide)
  have e : ((q / 2 : Nat) : Int) = (q : Int) / 2 := by simp
  rw [← e]
  unfold stp
  rw [if_pos h]
  exact this
theorem stp_even {q : Nat} (h : ¬ q % 2 = 1) : ((q : Int) / 2) = ((stp q : Nat) : Int) := by
  unfold stp
  rw [if_neg h]
  simp
theorem inv32 {q : Nat} (hq : q < 4294967296) : bits .xor .u32 IntKind.u32.max (q : Int) = ((q ^^^ M32 : Nat) : Int) := by
  have := u32_xor_nat 4294967295 q (by decide) hq
  rw [Nat.xor_comm] at this
  exact this

theorem and1 {q : Nat} (hq : q < 4294967296) : bits .and .u32 (q : Int) 1 = ((q % 2 : Nat) : Int) := by
  have := u32_and_nat q 1 hq (by decide)
  rw [Nat.and_one_is_mod] at this
  exact this

set_option maxRecDepth 100000 in
theorem take_any {w : World} {g off : Nat} {r : Nat} (hr : r < 4294967296) (c0 : w.cell? ⟨g, off, none⟩ = some (.int .u32 (r : Int))) (f0 : w.frozen? ⟨g, off, none⟩ = false) {A : Option Addr} {n c : Nat} {l : List UInt8} (hl : SlB w A n c l) :
    Calls Try.prog 40 #[.pointer (some ⟨g, off, none⟩), .slice A n c] w fun e w' => e = .returned (.tuple #[]) ∧ w' = w.setCell ⟨g, off, none⟩ (.int .u32 ((crcL (r ^^^ M32) l ^^^ M32 : Nat) : Int)) := by
  have hn := hl.len
  have hll := hl.2
  have HI : Hid (bits .xor .u32 IntKind.u32.max (r : Int) = ((r ^^^ M32 : Nat) : Int)) := inv32 hr
  have hrM : r ^^^ M32 < 4294967296 := xor32 hr (by decide)
  go_enter Try.func40, Try.ntmps40
  go_wp2_with fail
  rw [HI.out]
  generalize hs : r ^^^ M32 = s at hrM
  have HSS := Lib.hid hs
  clear hs HI
  go_loop [4, 15] (fun v i => ∃ k : Nat, k ≤ n ∧ i = .int .i64 k ∧ v = .int .u32 ((crcL s (l.take k) : Nat) : Int)) (fun _ i => n - (intOf i).toNat)
  case atStart => exact ⟨0, Nat.zero_le _, rfl, by simp [crcL]⟩
  case round =>
    obtain ⟨k, hk, rfl, rfl⟩ := hrel
    by_cases hlt : k < n
    · obtain ⟨b, o, rfl, hb, hck⟩ := hl.at_ hlt
      have hq := crcL_lt hrM (l.take k)
      have HN : Hid (crcL s (l.take (k + 1)) = tak (crcL s (l.take k)) (atB l k).toNat) := by
        unfold Hid; rw [take_snocB l k (by omega), crcL_snoc]
      generalize crcL s (l.take k) = q at hq HN ⊢
      have hx := u8_lt (atB l k)
      generalize (atB l k).toNat = x at hx HN hck
      have HX : Hid (bits .xor .u32 (q : Int) (x : Int) = ((q ^^^ x : Nat) : Int)) := u32_xor_nat q x hq (by omega)
      have hqx : q ^^^ x < 4294967296 := xor32 hq (by omega)
      go_wp2_with fail
      rw [HX.out]
      have HT : Hid (tak q x = stpN 8 (q ^^^ x)) := rfl
      generalize q ^^^ x = y at hqx HT
      go_loop [4, 23] (fun v i => ∃ j : Nat, j ≤ 8 ∧ i = .int .i64 j ∧ v = .int .u32 ((stpN j y : Nat) : Int)) (fun _ i => 8 - (intOf i).toNat)
      case atStart => exact ⟨0, Nat.zero_le _, rfl, rfl⟩
      case round =>
        obtain ⟨j, hj, rfl, rfl⟩ := hrel
        have hz := stpN_lt hqx j
        have HS : Hid (stpN (j + 1) y = stp (stpN j y)) := rfl
        by_cases h8 : j < 8
        · generalize stpN j y = z at hz HS ⊢
          by_cases ho : z % 2 = 1
          · have HO := Lib.hid (stp_odd hz ho)
            have ho' : (bits .and .u32 (z : Int) 1 == 1) = true := by rw [and1 hz, ho]; rfl
            clear ho
            go_wp2_with fail
            exact ⟨⟨j + 1, by omega, by go_num, by rw [HS.out, ← HO.out]⟩, by simp [intOf]; omega⟩
          · have HO := Lib.hid (stp_even ho)
            have ho' : (bits .and .u32 (z : Int) 1 == 1) = false := by rw [and1 hz, show z % 2 = 0 by omega]; rfl
            clear ho
            go_wp2_with fail
            exact ⟨⟨j + 1, by omega, by go_num, by rw [HS.out, ← HO.out]⟩, by simp [intOf]; omega⟩
        · obtain rfl : j = 8 := by omega
          go_wp2_with fail
          exact ⟨⟨k + 1, by omega, by go_num, by rw [HN.out, HT.out]⟩, by simp [intOf]; omega⟩
    · obtain rfl : k = n := by omega
      have HT : Hid (l.take k = l) := List.take_of_length_le (by omega)
      have HI2 : Hid (bits .xor .u32 IntKind.u32.max ((crcL s l : Nat) : Int) = ((crcL s l ^^^ M32 : Nat) : Int)) := inv32 (crcL_lt hrM l)
      rw [HT.out]
      generalize hq : crcL s l = q at HI2 ⊢
      have HQ := Lib.hid hq
      clear hq
      go_wp2_with fail
      go_end0
      exact ⟨rfl, by rw [HI2.out, HSS.out, HQ.out]⟩

theorem sum_any {w : World} {A : Option Addr} {n c : Nat} {l : List UInt8} (hl : SlB w A n c l) :
    Calls Try.prog 27 #[.slice A n c] w fun e w' => e = .returned (.int .u32 ((crc l : Nat) : Int)) ∧ Below w.heap.size w w' := by
  have b1 := Blk.new w 90 #[.int .u32 0]
  have hb := (Below.refl w.heap.size w).alloc (Nat.le_refl _) (.cells #[.int .u32 0] 90)
  go_enter Try.func27, Try.ntmps27
  go_wp2_with fail
  generalize hw1 : w.alloc (.cells #[.int .u32 0] 90) = w1 at b1 hb ⊢
  clear hw1
  refine (take_any (r := 0) (by decide) (b1.cell 0) (b1.frozen 0) (hl.keep hb)).mono ?_
  rintro e w2 ⟨rfl, rfl⟩
  have hc : (w1.setCell ⟨w.heap.size, 0, none⟩ (.int .u32 ((crcL (0 ^^^ M32) l ^^^ M32 : Nat) : Int))).cell? ⟨w.heap.size, 0, none⟩ = some (.int .u32 ((crc l : Nat) : Int)) := by
    have := (b1.set_ 0 (.int .u32 ((crcL (0 ^^^ M32) l ^^^ M32 : Nat) : Int))).cell 0
    rw [this]
    rfl
  have hb2 : Below w.heap.size w (w1.setCell ⟨w.heap.size, 0, none⟩ (.int .u32 ((crcL (0 ^^^ M32) l ^^^ M32 : Nat) : Int))) := hb.setCell (Nat.le_refl _) _
  generalize w1.setCell ⟨w.heap.size, 0, none⟩ (.int .u32 ((crcL (0 ^^^ M32) l ^^^ M32 : Nat) : Int)) = w2 at hc hb2 ⊢
  go_wp2_with fail
  go_ret
  exact ⟨rfl, hb2⟩

/-! ### the document's -/
theorem stp_pair {r x : Nat} : stp (r ^^^ x) = (if r % 2 = x % 2 then r / 2 else (r / 2) ^^^ poly) ^^^ (x / 2) := by
  unfold stp
  rw [odd_xor, half_xor]
  by_cases h : r % 2 = x % 2
  · rw [if_neg (by omega), if_pos h]
  · rw [if_pos (by omega), if_neg h, Nat.xor_assoc, Nat.xor_comm (x / 2), ← Nat.xor_assoc]
def refBit (r x : Nat) : Nat := if r % 2 = x % 2 then r / 2 else (r / 2) ^^^ poly
def refN (r x : Nat) : Nat → Nat
  | 0 => r
  | k + 1 => refBit (refN r x k) (x / 2 ^ k)
theorem refN_eq (r x : Nat) : ∀ k, refN r x k ^^^ x / 2 ^ k = stpN k (r ^^^ x)
  | 0 => by simp [refN, stpN]
  | k + 1 => by
    simp only [refN, stpN]
    rw [← refN_eq r x k, stp_pair, Nat.pow_succ, ← Nat.div_div_eq_div_mul]
    rfl
theorem refN8 (r x : Nat) (hx : x < 256) : refN r x 8 = tak r x := by
  have := refN_eq r x 8
  rw [show x / 2 ^ 8 = 0 by omega, Nat.xor_zero] at this
  exact this
theorem refBit_lt {r x : Nat} (h : r < 4294967296) : refBit r x < 4294967296 := by
  unfold refBit
  split
  · omega
  · exact xor32 (by omega) (by decide)
theorem refN_lt {r x : Nat} (h : r < 4294967296) : ∀ k, refN r x k < 4294967296
  | 0 => h
  | k + 1 => refBit_lt (refN_lt h k)
theorem not32 {q : Nat} (hq : q < 4294967296) : (4294967295 : Nat) - q = q ^^^ M32 := by
  have h := BitVec.toNat_not (x := BitVec.ofNat 32 q)
  rw [← BitVec.xor_allOnes, BitVec.toNat_xor] at h
  simp [Nat.mod_eq_of_lt hq] at h
  unfold M32
  rw [h]

set_option maxRecDepth 100000 in
theorem refSum_any {w : World} {A : Option Addr} {n c : Nat} {l : List UInt8} (hl : SlB w A n c l) :
    Calls Try.prog 42 #[.slice A n c] w fun e w' => e = .returned (.int .u32 ((crc l : Nat) : Int)) ∧ w = w' := by
  have hn := hl.len
  have hll := hl.2
  go_enter Try.func42, Try.ntmps42
  go_wp2_with fail
  go_loop [3, 4] (fun v i => ∃ k : Nat, k ≤ n ∧ i = .int .i64 k ∧ v = .int .u32 ((crcL M32 (l.take k) : Nat) : Int)) (fun _ i => n - (intOf i).toNat)
  case atStart => exact ⟨0, Nat.zero_le _, rfl, rfl⟩
  case round =>
    obtain ⟨k, hk, rfl, rfl⟩ := hrel
    by_cases hlt : k < n
    · obtain ⟨b, o, rfl, hb, hck⟩ := hl.at_ hlt
      have hq := crcL_lt (r := M32) (by decide) (l.take k)
      have HN : Hid (crcL M32 (l.take (k + 1)) = tak (crcL M32 (l.take k)) (atB l k).toNat) := by
        unfold Hid; rw [take_snocB l k (by omega), crcL_snoc]
      generalize crcL M32 (l.take k) = q at hq HN ⊢
      have hx := u8_lt (atB l k)
      generalize (atB l k).toNat = x at hx HN hck
      have HT : Hid (tak q x = refN q x 8) := (refN8 q x hx).symm
      go_wp2_with fail
      go_loop [3, 5, 6] (fun v u i => ∃ j : Nat, j ≤ 8 ∧ i = .int .i64 j ∧ v = .int .u32 ((refN q x j : Nat) : Int) ∧ u = .int .u8 ((x / 2 ^ j : Nat) : Int)) (fun _ _ i => 8 - (intOf i).toNat)
      case atStart => exact ⟨0, Nat.zero_le _, rfl, rfl, by simp⟩
      case round =>
        obtain ⟨j, hj, rfl, rfl, rfl⟩ := hrel
        have hz := refN_lt (x := x) hq j
        have HS : Hid (refN q x (j + 1) = refBit (refN q x j) (x / 2 ^ j)) := rfl
        have HD : Hid (x / 2 ^ (j + 1) = x / 2 ^ j / 2) := by unfold Hid; rw [Nat.pow_succ, Nat.div_div_eq_div_mul]
        have hy : x / 2 ^ j < 256 := Nat.lt_of_le_of_lt (Nat.div_le_self _ _) hx
        by_cases h8 : j < 8
        · generalize refN q x j = z at hz HS ⊢
          generalize x / 2 ^ j = y at hy HS HD ⊢
          by_cases ho : z % 2 = y % 2
          · have HO : Hid (refBit z y = z / 2) := by unfold Hid refBit; rw [if_pos ho]
            have ho' : ((z : Int) % 2 != (y : Int) % 2) = false := by simp; omega
            clear ho
            go_wp2_with fail
            exact ⟨⟨j + 1, by omega, by go_num, by rw [HS.out, HO.out]; go_num, by rw [HD.out]; go_num⟩, by simp [intOf]; omega⟩
          · have HO : Hid (refBit z y = (z / 2) ^^^ poly) := by unfold Hid refBit; rw [if_neg ho]
            have ho' : ((z : Int) % 2 != (y : Int) % 2) = true := by simp; omega
            have HX : Hid (bits .xor .u32 ((z : Int) / 2) 3988292384 = (((z / 2) ^^^ poly : Nat) : Int)) := by
              have := u32_xor_nat (z / 2) 3988292384 (by omega) (by decide)
              have e : ((z / 2 : Nat) : Int) = (z : Int) / 2 := by simp
              unfold Hid
              rw [← e]
              exact this
            clear ho
            go_wp2_with fail
            exact ⟨⟨j + 1, by omega, by go_num, by rw [HS.out, HO.out, ← HX.out], by rw [HD.out]; go_num⟩, by simp [intOf]; omega⟩
        · obtain rfl : j = 8 := by omega
          go_wp2_with fail
          exact ⟨⟨k + 1, by omega, by go_num, by rw [HN.out, HT.out]⟩, by simp [intOf]; omega⟩
    · obtain rfl : k = n := by omega
      have HT : Hid (l.take k = l) := List.take_of_length_le (by omega)
      rw [HT.out]
      have hq := crcL_lt (r := M32) (by decide) l
      have HF : Hid (((crc l : Nat) : Int) = 4294967295 - ((crcL M32 l : Nat) : Int)) := by
        unfold Hid crc; rw [← not32 hq]; omega
      generalize crcL M32 l = q at hq HF ⊢
      go_wp2_with fail
      go_ret
      exact ⟨by rw [HF.out]; rfl, rfl⟩
end Go.Proofs.Ytolohbgfhledoaa
