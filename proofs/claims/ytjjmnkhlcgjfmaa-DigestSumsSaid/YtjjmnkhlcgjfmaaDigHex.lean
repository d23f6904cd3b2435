/- The walks of digest.Hex, digest.Unhex and the document's. -/
import Derived.Test.YtjjmnkhlcgjfmaaDigWalks
import Derived.Lib.Bytealg
import Derived.Deep.DeepCutAuto
namespace Go.Proofs.Ytjjmnkhlcgjfmaa
open Go.RowKit

/-- the sixteen digits -/
def hexL : List UInt8 := [48, 49, 50, 51, 52, 53, 54, 55, 56, 57, 97, 98, 99, 100, 101, 102]
def hexB : ByteArray := { data := #[48, 49, 50, 51, 52, 53, 54, 55, 56, 57, 97, 98, 99, 100, 101, 102] }
def hexD (d : Nat) : UInt8 := atB hexL d
/-- a number's digits -/
def hexS (x : Nat) : List UInt8 := [hexD (x / 268435456 % 16), hexD (x / 16777216 % 16), hexD (x / 1048576 % 16), hexD (x / 65536 % 16), hexD (x / 4096 % 16), hexD (x / 256 % 16), hexD (x / 16 % 16), hexD (x % 16)]
theorem sixteen {p : Nat → Prop} (h : ∀ d, d < 16 → p d) (d : Nat) (hd : d < 16) : p d := h d hd
theorem index_hex (d : Nat) (hd : d < 16) (w : World) : (Instr.index 9 (.string { data := #[48, 49, 50, 51, 52, 53, 54, 55, 56, 57, 97, 98, 99, 100, 101, 102] }) (.int .u32 (d : Int))).run Try.prog w = .ok (.int .u8 ((hexD d).toNat : Int)) w := by
  have h : d = 0 ∨ d = 1 ∨ d = 2 ∨ d = 3 ∨ d = 4 ∨ d = 5 ∨ d = 6 ∨ d = 7 ∨ d = 8 ∨ d = 9 ∨ d = 10 ∨ d = 11 ∨ d = 12 ∨ d = 13 ∨ d = 14 ∨ d = 15 := by omega
  rcases h with rfl | rfl | rfl | rfl | rfl | rfl | rfl | rfl | rfl | rfl | rfl | rfl | rfl | rfl | rfl | rfl <;> rfl

set_option maxRecDepth 100000 in
theorem indexByte_any (s : ByteArray) (c : Int) (w : World) :
    Calls Try.prog 25 #[.string s, .int .u8 c] w fun e w' => e = .returned (.int .i64 (Lib.indexByte s.data.toList c.toNat.toUInt8)) ∧ w = w' := by
  go_enter Try.func25, Try.ntmps25
  go_wp2
  rw [run_callFunc_extern Try.func34 (by kernel_rfl) (by kernel_rfl) (by kernel_rfl) (e := Extern.BytealgIndexByte.indexByte) (by kernel_rfl), Lib.run_indexByteString]
  simp only [Result.andThen]
  rw [Oper.upon_value]
  go_wp2
  go_ret
  exact ⟨rfl, rfl⟩

theorem and15 {q : Nat} (hq : q < 4294967296) : bits .and .u32 (q : Int) 15 = ((q % 16 : Nat) : Int) := by
  have := u32_and_nat q 15 hq (by decide)
  rw [show (15 : Nat) = 2 ^ 4 - 1 by rfl, Nat.and_two_pow_sub_one_eq_mod] at this
  exact this

set_option maxRecDepth 100000 in
theorem hex_any {w : World} {x : Nat} (hx : x < 4294967296) :
    Calls Try.prog 11 #[.int .u32 (x : Int)] w fun e w' => e = .returned (.string ⟨(hexS x).toArray⟩) ∧ Below w.heap.size w w' := by
  have i0 : ∀ w, (Instr.index 9 (.string { data := #[48, 49, 50, 51, 52, 53, 54, 55, 56, 57, 97, 98, 99, 100, 101, 102] }) (.int .u32 (bits .and .u32 (x : Int) 15))).run Try.prog w = .ok (.int .u8 ((hexD (x % 16)).toNat : Int)) w := fun w => by
    rw [and15 hx]; exact index_hex _ (by omega) w
  have i1 : ∀ w, (Instr.index 9 (.string { data := #[48, 49, 50, 51, 52, 53, 54, 55, 56, 57, 97, 98, 99, 100, 101, 102] }) (.int .u32 (bits .and .u32 ((x : Int) / 16) 15))).run Try.prog w = .ok (.int .u8 ((hexD ((x / 16) % 16)).toNat : Int)) w := fun w => by
    rw [show ((x : Int) / 16) = ((x / 16 : Nat) : Int) by simp, and15 (by omega)]; exact index_hex _ (by omega) w
  have i2 : ∀ w, (Instr.index 9 (.string { data := #[48, 49, 50, 51, 52, 53, 54, 55, 56, 57, 97, 98, 99, 100, 101, 102] }) (.int .u32 (bits .and .u32 ((x : Int) / 256) 15))).run Try.prog w = .ok (.int .u8 ((hexD ((x / 256) % 16)).toNat : Int)) w := fun w => by
    rw [show ((x : Int) / 256) = ((x / 256 : Nat) : Int) by simp, and15 (by omega)]; exact index_hex _ (by omega) w
  have i3 : ∀ w, (Instr.index 9 (.string { data := #[48, 49, 50, 51, 52, 53, 54, 55, 56, 57, 97, 98, 99, 100, 101, 102] }) (.int .u32 (bits .and .u32 ((x : Int) / 4096) 15))).run Try.prog w = .ok (.int .u8 ((hexD ((x / 4096) % 16)).toNat : Int)) w := fun w => by
    rw [show ((x : Int) / 4096) = ((x / 4096 : Nat) : Int) by simp, and15 (by omega)]; exact index_hex _ (by omega) w
  have i4 : ∀ w, (Instr.index 9 (.string { data := #[48, 49, 50, 51, 52, 53, 54, 55, 56, 57, 97, 98, 99, 100, 101, 102] }) (.int .u32 (bits .and .u32 ((x : Int) / 65536) 15))).run Try.prog w = .ok (.int .u8 ((hexD ((x / 65536) % 16)).toNat : Int)) w := fun w => by
    rw [show ((x : Int) / 65536) = ((x / 65536 : Nat) : Int) by simp, and15 (by omega)]; exact index_hex _ (by omega) w
  have i5 : ∀ w, (Instr.index 9 (.string { data := #[48, 49, 50, 51, 52, 53, 54, 55, 56, 57, 97, 98, 99, 100, 101, 102] }) (.int .u32 (bits .and .u32 ((x : Int) / 1048576) 15))).run Try.prog w = .ok (.int .u8 ((hexD ((x / 1048576) % 16)).toNat : Int)) w := fun w => by
    rw [show ((x : Int) / 1048576) = ((x / 1048576 : Nat) : Int) by simp, and15 (by omega)]; exact index_hex _ (by omega) w
  have i6 : ∀ w, (Instr.index 9 (.string { data := #[48, 49, 50, 51, 52, 53, 54, 55, 56, 57, 97, 98, 99, 100, 101, 102] }) (.int .u32 (bits .and .u32 ((x : Int) / 16777216) 15))).run Try.prog w = .ok (.int .u8 ((hexD ((x / 16777216) % 16)).toNat : Int)) w := fun w => by
    rw [show ((x : Int) / 16777216) = ((x / 16777216 : Nat) : Int) by simp, and15 (by omega)]; exact index_hex _ (by omega) w
  have i7 : ∀ w, (Instr.index 9 (.string { data := #[48, 49, 50, 51, 52, 53, 54, 55, 56, 57, 97, 98, 99, 100, 101, 102] }) (.int .u32 (bits .and .u32 ((x : Int) / 268435456) 15))).run Try.prog w = .ok (.int .u8 ((hexD ((x / 268435456) % 16)).toNat : Int)) w := fun w => by
    rw [show ((x : Int) / 268435456) = ((x / 268435456 : Nat) : Int) by simp, and15 (by omega)]; exact index_hex _ (by omega) w
  generalize he0 : hexD (x % 16) = e0 at i0
  generalize he1 : hexD (x / 16 % 16) = e1 at i1
  generalize he2 : hexD (x / 256 % 16) = e2 at i2
  generalize he3 : hexD (x / 4096 % 16) = e3 at i3
  generalize he4 : hexD (x / 65536 % 16) = e4 at i4
  generalize he5 : hexD (x / 1048576 % 16) = e5 at i5
  generalize he6 : hexD (x / 16777216 % 16) = e6 at i6
  generalize he7 : hexD (x / 268435456 % 16) = e7 at i7
  have HE0 := Lib.hid he0
  have HE1 := Lib.hid he1
  have HE2 := Lib.hid he2
  have HE3 := Lib.hid he3
  have HE4 := Lib.hid he4
  have HE5 := Lib.hid he5
  have HE6 := Lib.hid he6
  have HE7 := Lib.hid he7
  clear he0 he1 he2 he3 he4 he5 he6 he7
  have HF : Hid (hexS x = [e7, e6, e5, e4, e3, e2, e1, e0]) := by
    unfold Hid hexS; rw [HE7.out, HE6.out, HE5.out, HE4.out, HE3.out, HE2.out, HE1.out, HE0.out]
  have hb := (Below.refl w.heap.size w).alloc (Nat.le_refl _) (.cells #[.int .u8 (e7.toNat : Int), .int .u8 (e6.toNat : Int), .int .u8 (e5.toNat : Int), .int .u8 (e4.toNat : Int), .int .u8 (e3.toNat : Int), .int .u8 (e2.toNat : Int), .int .u8 (e1.toNat : Int), .int .u8 (e0.toNat : Int)] 57)
  have hcv : (convert 31 9 (.slice (some ⟨w.heap.size, 0, none⟩) 8 8)).run Try.prog (w.alloc (.cells #[.int .u8 (e7.toNat : Int), .int .u8 (e6.toNat : Int), .int .u8 (e5.toNat : Int), .int .u8 (e4.toNat : Int), .int .u8 (e3.toNat : Int), .int .u8 (e2.toNat : Int), .int .u8 (e1.toNat : Int), .int .u8 (e0.toNat : Int)] 57)) = .ok (.string { data := #[e7, e6, e5, e4, e3, e2, e1, e0] }) (w.alloc (.cells #[.int .u8 (e7.toNat : Int), .int .u8 (e6.toNat : Int), .int .u8 (e5.toNat : Int), .int .u8 (e4.toNat : Int), .int .u8 (e3.toNat : Int), .int .u8 (e2.toNat : Int), .int .u8 (e1.toNat : Int), .int .u8 (e0.toNat : Int)] 57)) := run_bytes_str (P := Try.prog) 31 9 5 (by kernel_rfl) (by kernel_rfl) (by kernel_rfl) (SlB.of_blk (Blk.new w 57 #[.int .u8 (e7.toNat : Int), .int .u8 (e6.toNat : Int), .int .u8 (e5.toNat : Int), .int .u8 (e4.toNat : Int), .int .u8 (e3.toNat : Int), .int .u8 (e2.toNat : Int), .int .u8 (e1.toNat : Int), .int .u8 (e0.toNat : Int)]) [e7, e6, e5, e4, e3, e2, e1, e0] rfl (by simp))
  go_enter Try.func11, Try.ntmps11
  go_wp2_with fail
  refine wp_loop_rounds 9 ?_
  rw [rounds_succ]
  go_wp2_with fail
  rw [rounds_succ]
  go_wp2_with fail
  rw [rounds_succ]
  go_wp2_with fail
  rw [rounds_succ]
  go_wp2_with fail
  rw [rounds_succ]
  go_wp2_with fail
  rw [rounds_succ]
  go_wp2_with fail
  rw [rounds_succ]
  go_wp2_with fail
  rw [rounds_succ]
  go_wp2_with fail
  rw [rounds_succ]
  go_wp2_with fail
  go_ret
  exact ⟨by rw [HF.out]; rfl, hb⟩

/-! ### Unhex -/
def dig (c : UInt8) : Int := Lib.indexByte hexL c
def digN (c : UInt8) : Nat := (dig c).toNat
def val (s : List UInt8) : Nat := s.foldl (fun x c => 16 * x + digN c) 0
def allDig (s : List UInt8) : Bool := s.all fun c => decide (0 ≤ dig c)
/-- digits' number, and the error -/
def unhexR (s : List UInt8) : Nat × Int := if s.length = 8 ∧ allDig s = true then (val s, 0) else (0, 13)
theorem dig_rng : ∀ c : Fin 256, -1 ≤ dig (UInt8.ofNat c.val) ∧ dig (UInt8.ofNat c.val) ≤ 15 := by decide +kernel
theorem dig_bd (c : UInt8) : -1 ≤ dig c ∧ dig c ≤ 15 := by
  have := dig_rng ⟨c.toNat, c.toNat_lt⟩
  simpa using this
theorem val_snoc (s : List UInt8) (c : UInt8) : val (s ++ [c]) = 16 * val s + digN c := by simp [val]
theorem val_lt : ∀ (k : Nat) (s : List UInt8), s.length = k → val s < 16 ^ k := by
  intro k
  induction k with
  | zero => intro s h; have : s = [] := List.eq_nil_of_length_eq_zero h; subst this; simp [val]
  | succ k ih =>
    intro s h
    obtain ⟨s', c, rfl⟩ : ∃ s' c, s = s' ++ [c] := ⟨s.dropLast, s.getLast (by intro e; subst e; simp at h), (List.dropLast_concat_getLast _).symm⟩
    rw [val_snoc, Nat.pow_succ]
    have h1 := ih s' (by simpa using h)
    have h2 := dig_bd c
    unfold digN
    omega
theorem or16 {q d : Nat} (hq : q < 268435456) (hd : d < 16) : bits .or .u32 ((q : Int) * 16) (d : Int) = ((16 * q + d : Nat) : Int) := by
  have h := u32_or_nat (q * 16) d (by omega) (by omega)
  rw [show ((q * 16 : Nat) : Int) = (q : Int) * 16 by simp] at h
  rw [h, nat_join 4 (q * 16) d (by omega) (by omega), Nat.mul_comm]

theorem dig_of (c : UInt8) : Lib.indexByte ({ data := #[48, 49, 50, 51, 52, 53, 54, 55, 56, 57, 97, 98, 99, 100, 101, 102] } : ByteArray).data.toList ((c.toNat : Int).toNat.toUInt8) = dig c := by
  rw [Int.toNat_natCast]
  have : c.toNat.toUInt8 = c := UInt8.ofNat_toNat
  rw [this]
  rfl
theorem str_get (s : ByteArray) (k : Nat) (h : k < s.size) : s.data.toList.take (k + 1) = s.data.toList.take k ++ [s[k]] := by
  rw [List.take_succ_eq_append_getElem (by simpa using h)]
  rfl
theorem allDig_get {s : ByteArray} {k : Nat} (h : k < s.size) (ha : allDig s.data.toList = true) : 0 ≤ dig s[k] := by
  unfold allDig at ha
  rw [List.all_eq_true] at ha
  have := ha s[k] (by
    have : s.data.toList[k]'(by simpa using h) ∈ s.data.toList := List.getElem_mem _
    exact this)
  simpa using this
theorem size_list (s : ByteArray) : s.data.toList.length = s.size := Array.length_toList

set_option maxRecDepth 100000 in
theorem unhex_any {w : World} (s : ByteArray) (_hs : s.size ≤ 1000000) :
    Calls Try.prog 9 #[.string s] w fun e w' => e = .returned (.tuple #[.int .u32 (((unhexR s.data.toList).1 : Nat) : Int), .int .i64 (unhexR s.data.toList).2]) ∧ w = w' := by
  go_enter Try.func9, Try.ntmps9
  go_wp2_with fail
  go_loop [4, 9] (fun v i => ∃ k : Nat, k ≤ s.size ∧ k ≤ 8 ∧ i = .int .i64 k ∧ Hid (allDig (s.data.toList.take k) = true) ∧ v = .int .u32 ((val (s.data.toList.take k) : Nat) : Int)) (fun _ i => s.size - (intOf i).toNat)
  case atStart => exact ⟨0, Nat.zero_le _, by omega, rfl, rfl, rfl⟩
  case round =>
    obtain ⟨k, hk, hk8, rfl, HAD, rfl⟩ := hrel
    have hvl := val_lt k (s.data.toList.take k) (by rw [List.length_take, size_list]; omega)
    by_cases hlt : k < s.size
    · have HT := Lib.hid (str_get s k hlt)
      have HG : Hid (allDig s.data.toList = true → 0 ≤ dig s[k]) := allDig_get hlt
      have hd := dig_bd s[k]
      have HO := Lib.hid (dig_of s[k])
      have HL := Lib.hid (size_list s)
      go_wp2_with fail
      refine (indexByte_any _ _ _).mono ?_
      rintro e w' ⟨rfl, rfl⟩
      rw [HO.out]
      have HV : Hid (val (s.data.toList.take (k + 1)) = 16 * val (s.data.toList.take k) + digN s[k]) := by unfold Hid; rw [HT.out, val_snoc]
      have HA2 : Hid (0 ≤ dig s[k] → allDig (s.data.toList.take (k + 1)) = true) := by
        unfold Hid
        intro h
        rw [HT.out]
        unfold allDig
        rw [List.all_append, Bool.and_eq_true]
        exact ⟨HAD.out, by simpa using h⟩
      have HN : Hid (digN s[k] = (dig s[k]).toNat) := rfl
      generalize dig s[k] = d at hd HG HA2 HN ⊢
      by_cases hneg : d < 0
      · have HF : Hid (unhexR s.data.toList = (0, 13)) := by
          unfold Hid unhexR
          rw [if_neg]
          intro h
          have := HG.out h.2
          omega
        go_wp2_with fail
        go_ret2
        exact ⟨by rw [HF.out]; rfl, rfl⟩
      · have hneg' : decide (d < 0) = false := by simpa using hneg
        by_cases h7 : 7 < k
        · have HF : Hid (unhexR s.data.toList = (0, 13)) := by
            unfold Hid unhexR
            rw [if_neg]
            intro h
            have := HL.out
            omega
          have h7' : (7 : Int) < k := by omega
          go_wp2_with fail
          go_ret2
          exact ⟨by rw [HF.out]; rfl, rfl⟩
        · have h7' : decide ((7 : Int) < k) = false := by simp; omega
          have hq : val (s.data.toList.take k) < 268435456 := Nat.lt_of_lt_of_le hvl (by
            have : 16 ^ k ≤ 16 ^ 7 := Nat.pow_le_pow_right (by omega) (by omega)
            exact this)
          obtain ⟨d, rfl⟩ := Int.eq_ofNat_of_zero_le (show 0 ≤ d by omega)
          generalize val (s.data.toList.take k) = q at hq HV hvl ⊢
          have HB := Lib.hid (or16 hq (show d < 16 by omega))
          clear hneg
          go_wp2_with fail
          exact ⟨⟨k + 1, by omega, by omega, by go_num, HA2.out (by omega), by rw [HV.out, HN.out, HB.out]; rfl⟩, by simp [intOf]; omega⟩
    · obtain rfl : k = s.size := by omega
      have HL := size_list s
      have HT : Hid (s.data.toList.take s.size = s.data.toList) := List.take_of_length_le (by omega)
      rw [HT.out] at HAD hvl ⊢
      by_cases h8 : s.size = 8
      · have HF : Hid (unhexR s.data.toList = (val s.data.toList, 0)) := by
          unfold Hid unhexR
          rw [if_pos ⟨by omega, HAD.out⟩]
        have h8' : ((s.size : Int) != 8) = false := by simp; omega
        clear HL h8
        go_wp2_with fail
        go_ret2
        exact ⟨by rw [HF.out]; rfl, rfl⟩
      · have HF : Hid (unhexR s.data.toList = (0, 13)) := by
          unfold Hid unhexR
          rw [if_neg]
          intro h
          omega
        have h8' : ((s.size : Int) != 8) = true := by simp; omega
        clear HL h8
        go_wp2_with fail
        go_ret2
        exact ⟨by rw [HF.out]; rfl, rfl⟩

/-! ### The document's Unhex -/
def findD (c : UInt8) : Nat → Nat
  | 0 => 16
  | j + 1 => if c = atB hexL j then j else findD c j
theorem findD_le (c : UInt8) : ∀ j, j ≤ 16 → findD c j ≤ 16
  | 0, _ => Nat.le_refl _
  | j + 1, h => by
    unfold findD
    split
    · omega
    · exact findD_le c j (by omega)
theorem findD_fin : ∀ c : Fin 256, (findD (UInt8.ofNat c.val) 16 : Int) = if dig (UInt8.ofNat c.val) = -1 then 16 else dig (UInt8.ofNat c.val) := by decide +kernel
theorem findD_eq (c : UInt8) : (findD c 16 : Int) = if dig c = -1 then 16 else dig c := by
  have := findD_fin ⟨c.toNat, c.toNat_lt⟩
  simpa using this
theorem index_hex64 (d : Nat) (hd : d < 16) (w : World) : (Instr.index 9 (.string { data := #[48, 49, 50, 51, 52, 53, 54, 55, 56, 57, 97, 98, 99, 100, 101, 102] }) (.int .i64 (d : Int))).run Try.prog w = .ok (.int .u8 ((hexD d).toNat : Int)) w := by
  have h : d = 0 ∨ d = 1 ∨ d = 2 ∨ d = 3 ∨ d = 4 ∨ d = 5 ∨ d = 6 ∨ d = 7 ∨ d = 8 ∨ d = 9 ∨ d = 10 ∨ d = 11 ∨ d = 12 ∨ d = 13 ∨ d = 14 ∨ d = 15 := by omega
  rcases h with rfl | rfl | rfl | rfl | rfl | rfl | rfl | rfl | rfl | rfl | rfl | rfl | rfl | rfl | rfl | rfl <;> rfl

set_option maxRecDepth 100000 in
theorem refUnhex_any {w : World} (s : ByteArray) (_hs : s.size ≤ 1000000) :
    Calls Try.prog 10 #[.string s] w fun e w' => e = .returned (.tuple #[.int .u32 (((unhexR s.data.toList).1 : Nat) : Int), .int .i64 (unhexR s.data.toList).2]) ∧ ∃ k, w' = w.drewN k := by
  have HL := size_list s
  by_cases h8 : s.size = 8
  · have h8' : ((s.size : Int) != 8) = false := by simp; omega
    have HL8 : Hid (s.data.toList.length = 8) := by unfold Hid; omega
    have hlt8 : ∀ k, k < 8 → k < s.size := fun k hk => by omega
    have H8 := Lib.hid h8
    have HT8 := Lib.hid hlt8
    clear HL h8 hlt8
    go_enter Try.func10, Try.ntmps10
    go_wp2_with fail
    go_loopw [4, 5] (fun v i wr => ∃ k : Nat, k ≤ 8 ∧ i = .int .i64 k ∧ Hid (allDig (s.data.toList.take k) = true) ∧ v = .int .u32 ((val (s.data.toList.take k) : Nat) : Int) ∧ ∃ q, wr = w.drewN q) (fun _ i _ => 8 - (intOf i).toNat)
    case atStart => exact ⟨0, Nat.zero_le _, rfl, rfl, rfl, 0, rfl⟩
    case round =>
      obtain ⟨k, hk, rfl, HAD, rfl, q0, rfl⟩ := hrel
      have hvl := val_lt k (s.data.toList.take k) (by rw [List.length_take, HL8.out]; omega)
      by_cases hlt : k < 8
      · have hks := HT8.out k hlt
        have HT := Lib.hid (str_get s k hks)
        have HG : Hid (allDig s.data.toList = true → 0 ≤ dig s[k]) := allDig_get hks
        have hd := dig_bd s[k]
        have HV : Hid (val (s.data.toList.take (k + 1)) = 16 * val (s.data.toList.take k) + digN s[k]) := by unfold Hid; rw [HT.out, val_snoc]
        have HA2 : Hid (0 ≤ dig s[k] → allDig (s.data.toList.take (k + 1)) = true) := by
          unfold Hid
          intro h
          rw [HT.out]
          unfold allDig
          rw [List.all_append, Bool.and_eq_true]
          exact ⟨HAD.out, by simpa using h⟩
        have HN : Hid (digN s[k] = (dig s[k]).toNat) := rfl
        have HFD := Lib.hid (findD_eq s[k])
        go_wp2_with fail
        go_loopw [6, 7] (fun v i wr => ∃ j : Nat, j ≤ 16 ∧ i = .int .i64 j ∧ v = .int .i64 ((findD s[k] j : Nat) : Int) ∧ ∃ q, wr = w.drewN q) (fun _ i _ => 16 - (intOf i).toNat)
        case atStart => exact ⟨0, Nat.zero_le _, rfl, rfl, q0, rfl⟩
        case round =>
          obtain ⟨j, hj, rfl, rfl, q1, rfl⟩ := hrel
          by_cases h16 : j < 16
          · have hix := index_hex64 j h16
            have HS : Hid (findD s[k] (j + 1) = if s[k] = atB hexL j then j else findD s[k] j) := rfl
            have hin : (k : Int) < s.size := by omega
            by_cases he : s[k] = atB hexL j
            · have he' : ((s[k].toNat : Int) == ((hexD j).toNat : Int)) = true := by unfold hexD; rw [he]; simp
              have HS2 : Hid (findD s[k] (j + 1) = j) := by unfold Hid; rw [HS.out, if_pos he]
              clear he
              go_wp2_with fail
              go_quiet (fail)
              go_wp2_with fail
              exact ⟨⟨j + 1, by omega, by go_num, by rw [HS2.out], _, rfl⟩, by simp [intOf]; omega⟩
            · have he' : ((s[k].toNat : Int) == ((hexD j).toNat : Int)) = false := by
                unfold hexD
                simp only [beq_eq_false_iff_ne]
                intro h
                exact he (UInt8.toNat_inj.1 (by omega))
              have HS2 : Hid (findD s[k] (j + 1) = findD s[k] j) := by unfold Hid; rw [HS.out, if_neg he]
              clear he
              go_wp2_with fail
              go_quiet (fail)
              go_wp2_with fail
              exact ⟨⟨j + 1, by omega, by go_num, by rw [HS2.out], _, rfl⟩, by simp [intOf]; omega⟩
          · obtain rfl : j = 16 := by omega
            have hfle := findD_le s[k] 16 (Nat.le_refl _)
            generalize findD s[k] 16 = f at HFD hfle ⊢
            generalize dig s[k] = d at hd HG HA2 HN HFD
            by_cases hneg : d = -1
            · have hf : f = 16 := by have := HFD.out; rw [if_pos hneg] at this; omega
              have HF : Hid (unhexR s.data.toList = (0, 13)) := by
                unfold Hid unhexR
                rw [if_neg]
                intro h
                have := HG.out h.2
                omega
              subst hf
              clear hneg
              go_wp2_with fail
              go_ret2
              exact ⟨by rw [HF.out]; rfl, _, rfl⟩
            · have hfd : (f : Int) = d := by have := HFD.out; rw [if_neg hneg] at this; exact this
              have hf15 : f < 16 := by omega
              have hf' : ((f : Int) == 16) = false := by simp; omega
              have HN2 : Hid (digN s[k] = f) := by unfold Hid; rw [HN.out]; omega
              have HA3 : Hid (allDig (s.data.toList.take (k + 1)) = true) := HA2.out (by omega)
              have hq : val (s.data.toList.take k) < 268435456 := Nat.lt_of_lt_of_le hvl (by
                have : 16 ^ k ≤ 16 ^ 7 := Nat.pow_le_pow_right (by omega) (by omega)
                exact this)
              generalize val (s.data.toList.take k) = q at hq HV hvl ⊢
              clear hneg hfd hvl
              go_wp2_with fail
              exact ⟨⟨k + 1, by omega, by go_num, HA3, by rw [HV.out, HN2.out]; go_num, _, rfl⟩, by simp [intOf]; omega⟩
      · obtain rfl : k = 8 := by omega
        have HT : Hid (s.data.toList.take 8 = s.data.toList) := List.take_of_length_le (by rw [HL8.out]; omega)
        rw [HT.out] at HAD hvl ⊢
        have HF : Hid (unhexR s.data.toList = (val s.data.toList, 0)) := by
          unfold Hid unhexR
          rw [if_pos ⟨HL8.out, HAD.out⟩]
        go_wp2_with fail
        go_ret2
        exact ⟨by rw [HF.out]; rfl, _, rfl⟩
  · have HF : Hid (unhexR s.data.toList = (0, 13)) := by
      unfold Hid unhexR
      rw [if_neg]
      intro h
      omega
    have h8' : ((s.size : Int) != 8) = true := by simp; omega
    clear HL h8
    go_enter Try.func10, Try.ntmps10
    go_wp2_with fail
    go_ret2
    exact ⟨by rw [HF.out]; rfl, 0, rfl⟩
end Go.Proofs.Ytjjmnkhlcgjfmaa
