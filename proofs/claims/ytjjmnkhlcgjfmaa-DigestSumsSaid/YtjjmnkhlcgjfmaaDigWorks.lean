/- The document's Hex, and the law file's own check 'works'. -/
import Derived.Test.YtjjmnkhlcgjfmaaDigHex
import Derived.Lib.SlBytesConst
namespace Go.Proofs.Ytjjmnkhlcgjfmaa
open Go.RowKit

theorem slice_hex (d : Nat) (hd : d < 16) (w : World) : (Instr.sliceAt 9 (.string { data := #[48, 49, 50, 51, 52, 53, 54, 55, 56, 57, 97, 98, 99, 100, 101, 102] }) (some (.int .u32 (d : Int))) (some (.int .u32 ((d : Int) + 1))) none).run Try.prog w = .ok (.string { data := #[hexD d] }) w := by
  have h : d = 0 ∨ d = 1 ∨ d = 2 ∨ d = 3 ∨ d = 4 ∨ d = 5 ∨ d = 6 ∨ d = 7 ∨ d = 8 ∨ d = 9 ∨ d = 10 ∨ d = 11 ∨ d = 12 ∨ d = 13 ∨ d = 14 ∨ d = 15 := by omega
  rcases h with rfl | rfl | rfl | rfl | rfl | rfl | rfl | rfl | rfl | rfl | rfl | rfl | rfl | rfl | rfl | rfl <;> rfl

/-- the last k digits -/
def hexT (x : Nat) : Nat → List UInt8
  | 0 => []
  | k + 1 => hexD (x / 16 ^ k % 16) :: hexT x k
theorem hexT_8 (x : Nat) : hexT x 8 = hexS x := by
  simp [hexT, hexS]

theorem hexT_length (x : Nat) : ∀ k, (hexT x k).length = k
  | 0 => rfl
  | k + 1 => by simp [hexT, hexT_length x k]
theorem str_cons (c : UInt8) (l : List UInt8) : (Value.string ({ data := #[c] } ++ { data := l.toArray })) = Value.string { data := (c :: l).toArray } := by
  congr 1

set_option maxRecDepth 100000 in
theorem refHex_any {w : World} {x : Nat} (hx : x < 4294967296) :
    Calls Try.prog 12 #[.int .u32 (x : Int)] w fun e w' => e = .returned (.string ⟨(hexS x).toArray⟩) ∧ ∃ k, w' = w.drewN k := by
  go_enter Try.func12, Try.ntmps12
  go_wp2_with fail
  go_loopw [0, 3, 4] (fun v s i wr => ∃ k : Nat, k ≤ 8 ∧ i = .int .i64 k ∧ s = .string { data := (hexT x k).toArray } ∧ v = .int .u32 ((x / 16 ^ k : Nat) : Int) ∧ ∃ q, wr = w.drewN q) (fun _ _ i _ => 8 - (intOf i).toNat)
  case atStart => exact ⟨0, Nat.zero_le _, rfl, rfl, by simp, 0, rfl⟩
  case round =>
    obtain ⟨k, hk, rfl, rfl, rfl, q0, rfl⟩ := hrel
    by_cases h8 : k < 8
    · have HT : Hid (hexT x (k + 1) = hexD (x / 16 ^ k % 16) :: hexT x k) := rfl
      have HX : Hid (x / 16 ^ (k + 1) = x / 16 ^ k / 16) := by unfold Hid; rw [Nat.pow_succ, Nat.div_div_eq_div_mul]
      have hq : x / 16 ^ k < 4294967296 := Nat.lt_of_le_of_lt (Nat.div_le_self _ _) hx
      generalize x / 16 ^ k = y at HT HX hq ⊢
      have hlen : (hexT x k).length = k := hexT_length x k
      have hsl := slice_hex (y % 16) (Nat.mod_lt _ (by decide))
      rw [show ((y % 16 : Nat) : Int) = (y : Int) % 16 from by simp] at hsl
      go_wp2_with fail
      exact ⟨⟨k + 1, by omega, by go_num, by rw [HT.out, str_cons], by rw [HX.out]; go_num, _, rfl⟩, by simp [intOf]; omega⟩
    · obtain rfl : k = 8 := by omega
      have HF := Lib.hid (hexT_8 x)
      go_wp2_with fail
      go_ret
      exact ⟨by rw [HF.out]; rfl, _, rfl⟩

theorem SlB.of_const (w : World) (t : TypeId) (cs : Array Value) (z : Nat × Nat) (l : List UInt8) (hcs : cs.toList = l.map bv) (hl : l.length ≤ 1000000) : SlB (w.alloc (.cells cs t z)) (some ⟨w.heap.size, 0, none⟩) l.length l.length l :=
  ⟨⟨by simp, Nat.le_refl _, by unfold maxLen; omega, (fun e => by cases e), fun _ => ⟨w.heap.size, 0, rfl, by simp, fun j u hu => by rw [Nat.zero_add, cell_of_row _ _ j cs t z (heap_alloc_new w _), ← hu, ← hcs]; simp⟩⟩, rfl⟩

def nines : List UInt8 := [49, 50, 51, 52, 53, 54, 55, 56, 57]
set_option maxRecDepth 100000 in
theorem crc_nines : crc nines = 3421780262 := by decide +kernel

set_option maxRecDepth 100000 in
theorem works_any (w : World) : Calls Try.prog 8 #[] w fun e w' => e = .returned (.bool true) ∧ Below w.heap.size w w' := by
  have kc := fun (w : World) (C : Array Value) (n c : Nat) => Lib.run_convert_bytes_const (P := Try.prog) w 31 5 C n c (by kernel_rfl) (by kernel_rfl)
  have hb := (Below.refl w.heap.size w).alloc (Nat.le_refl _) (.cells #[.int .u8 49, .int .u8 50, .int .u8 51, .int .u8 52, .int .u8 53, .int .u8 54, .int .u8 55, .int .u8 56, .int .u8 57] 5 (9, 10))
  have hs := SlB.of_const w 5 #[.int .u8 49, .int .u8 50, .int .u8 51, .int .u8 52, .int .u8 53, .int .u8 54, .int .u8 55, .int .u8 56, .int .u8 57] (9, 10) nines rfl (by decide)
  go_enter Try.func8, Try.ntmps8
  go_wp2_with fail
  refine (unhex_any _ (by decide)).mono ?_
  rintro e w1 ⟨rfl, rfl⟩
  rw [show unhexR ({ data := #[99, 98, 102, 52, 51, 57, 50, 54] } : ByteArray).data.toList = (3421780262, 0) from by decide]
  go_wp2_with fail
  refine (sum_any hs).mono ?_
  rintro e w2 ⟨rfl, hb2⟩
  rw [crc_nines]
  go_wp2_with fail
  refine (hex_any (x := 3421780262) (by decide)).mono ?_
  rintro e w3 ⟨rfl, hb3⟩
  rw [show (⟨(hexS 3421780262).toArray⟩ : ByteArray) = { data := #[99, 98, 102, 52, 51, 57, 50, 54] } from rfl]
  go_wp2_with fail
  go_ret
  exact ⟨rfl, (hb.trans (hb2.mono hb.size)).trans (hb3.mono (hb.trans (hb2.mono hb.size)).size)⟩
end Go.Proofs.Ytjjmnkhlcgjfmaa
