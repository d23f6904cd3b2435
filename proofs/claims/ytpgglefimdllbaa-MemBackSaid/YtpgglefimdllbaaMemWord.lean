/- The walks of package mem: Bytes, Word, Put. -/
import Derived.Test.YtpgglefimdllbaaMemStore
import Derived.Test.YtpgglefimdllbaaVarSpec
namespace Go.Proofs.Ytpgglefimdllbaa
open Go.RowKit
def bytesR (Bs : List (List UInt8)) (k : Int) : List UInt8 := if k < 0 ∨ (Bs.length : Int) ≤ k then [] else atD [] Bs k.toNat
set_option maxRecDepth 100000 in
theorem bytes_any {w : World} {g B : Nat} {A : Option Addr} {c : Nat} {PQ : List (Nat × Nat)} {Ss : List Sg} {Bs : List (List UInt8)} (h : MemX w g B A c PQ Ss Bs) {k : Int} (hk : i64 k) :
    Calls Try.prog 16 #[.pointer (some ⟨g, 0, none⟩), .int .i64 k] w fun e w' => ∃ v, e = .returned v ∧ w'.ownsRow w.heap.size 5 1 v (bytesR Bs k).length ((bytesR Bs k).map bv) ∧ Below w.heap.size w w' := by
  have HB : Hid (bytesR Bs k = if k < 0 ∨ (Bs.length : Int) ≤ k then [] else atD [] Bs k.toNat) := rfl
  generalize bytesR Bs k = R at HB ⊢
  have g0 : w.cell? ⟨g, 0, none⟩ = some (.slice A Ss.length c) := h.1.cell 0
  have hBl := h.2.2.1
  go_enter Try.func16, Try.ntmps16
  by_cases h0 : k < 0
  · have HR : Hid (R = []) := by unfold Hid; rw [HB.out, if_pos (.inl h0)]
    have h0' : decide (k < 0) = true := by simpa using h0
    clear HB
    go_wp2_with fail
    go_ret
    rw [HR.out]
    exact ⟨_, rfl, World.ownsRow_nil _ _ _ _, Below.refl _ _⟩
  · have h0' : decide (k < 0) = false := by simpa using h0
    by_cases h1 : (Ss.length : Int) ≤ k
    · have HR : Hid (R = []) := by unfold Hid; rw [HB.out, if_pos (.inr (by rw [hBl]; exact h1))]
      have h1' : decide ((Ss.length : Int) ≤ k) = true := by simpa using h1
      clear HB
      go_wp2_with fail
      go_ret
      rw [HR.out]
      exact ⟨_, rfl, World.ownsRow_nil _ _ _ _, Below.refl _ _⟩
    · have h1' : decide ((Ss.length : Int) ≤ k) = false := by simpa using h1
      obtain ⟨j, rfl⟩ : ∃ j : Nat, k = j := ⟨k.toNat, by omega⟩
      have hlt : j < Ss.length := by omega
      have HR : Hid (R = atD [] Bs j) := by unfold Hid; rw [HB.out, if_neg (by rw [hBl]; omega), Int.toNat_natCast]
      clear HB
      obtain ⟨-, hS, -, -, -, h6, -, h8, h9⟩ := h
      obtain ⟨b, o, rfl, hb, hc⟩ := hS.at_ (0, 0) hlt
      have e0 : w.cell? ⟨b, o + j, none⟩ = some (.pointer (some ⟨(atD (0, 0) PQ j).1, 0, none⟩)) := by have := hc 0 _ rfl; simpa using this
      obtain ⟨r1, r2, r3⟩ := h8 j hlt
      generalize atD (0, 0) PQ j = x at e0 r1 r2
      generalize atD [] Bs j = l at HR r1 r2 r3
      have c3 : w.cell? ⟨x.1, 3, none⟩ = some (.slice (some ⟨x.2, 0, none⟩) l.length l.length) := r1.cell 3
      have hsl := SlB.of_whole r2 (by omega)
      have hlt' : (j : Int) < (Ss.length : Int) := by omega
      clear h8 h9 hc hS
      go_wp2_with fail
      refine (clone_any hsl (by omega)).mono ?_
      rintro e w2 ⟨v2, rfl, hown2, hb2⟩
      go_wp2_with fail
      go_ret
      rw [HR.out]
      exact ⟨v2, rfl, hown2, hb2⟩
def val4 : List UInt8 → Int
  | [a, b, c, d] => (a.toNat : Int) + 256 * b.toNat + 65536 * c.toNat + 16777216 * d.toNat
  | _ => 0
theorem loadR_four (Ss : List Sg) (Bs : List (List UInt8)) (a : Int) : ((loadR Ss Bs a 4).2 = false ∧ (loadR Ss Bs a 4).1 = []) ∨ ((loadR Ss Bs a 4).2 = true ∧ ∃ x0 x1 x2 x3, (loadR Ss Bs a 4).1 = [x0, x1, x2, x3]) := by
  unfold loadR
  cases hF : fdF Ss Bs a 4 false with
  | none => exact .inl ⟨rfl, rfl⟩
  | some k =>
    obtain ⟨hk, f, m, hf, hm, hroom⟩ := fdF_room hF
    refine .inr ⟨rfl, ?_⟩
    simp only [hf, Int.toNat_natCast]
    have hl : (((atD [] Bs k).drop f).take (4 : Int).toNat).length = 4 := by
      rw [List.length_take, List.length_drop]
      show min 4 _ = 4
      omega
    match ((atD [] Bs k).drop f).take (4 : Int).toNat, hl with
    | [x0, x1, x2, x3], _ => exact ⟨x0, x1, x2, x3, rfl⟩
theorem i64_or_nat (a b : Nat) (ha : a < 4611686018427387904) (hb : b < 4611686018427387904) : bits .or .i64 (a : Int) (b : Int) = ((a ||| b : Nat) : Int) := by
  have hx : a ||| b < 2 ^ 62 := Nat.or_lt_two_pow (by omega) (by omega)
  show IntKind.i64.wrap ((BitVec.ofInt 64 (a : Int) ||| BitVec.ofInt 64 (b : Int)).toNat : Int) = _
  rw [BitVec.toNat_or, ofInt_u64 a (by omega), ofInt_u64 b (by omega), IntKind.wrap_i64]
  omega
theorem or_join (a b i : Nat) (ha : a < 2 ^ i) (hb : b % 2 ^ i = 0) (hi : 2 ^ i ≤ 4294967296) (hb2 : b < 4611686018427387904) : bits .or .i64 (a : Int) (b : Int) = ((a + b : Nat) : Int) := by
  rw [i64_or_nat a b (by omega) hb2, Nat.or_comm, nat_join i b a hb ha, Nat.add_comm]
theorem or_four {a b c d : Nat} (ha : a < 256) (hb : b < 256) (hc : c < 256) (hd : d < 256) :
    bits .or .i64 (bits .or .i64 (bits .or .i64 (bits .or .i64 0 (a : Int)) ((b : Int) * 256)) ((c : Int) * 65536)) ((d : Int) * 16777216) = (a : Int) + 256 * b + 65536 * c + 16777216 * d := by
  have e0 : bits .or .i64 0 (a : Int) = ((0 + a : Nat) : Int) := or_join 0 a 0 (by decide) (by omega) (by decide) (by omega)
  have e1 : bits .or .i64 ((0 + a : Nat) : Int) ((b * 256 : Nat) : Int) = ((0 + a + b * 256 : Nat) : Int) := or_join _ _ 8 (by omega) (by omega) (by decide) (by omega)
  have e2 : bits .or .i64 ((0 + a + b * 256 : Nat) : Int) ((c * 65536 : Nat) : Int) = ((0 + a + b * 256 + c * 65536 : Nat) : Int) := or_join _ _ 16 (by omega) (by omega) (by decide) (by omega)
  have e3 : bits .or .i64 ((0 + a + b * 256 + c * 65536 : Nat) : Int) ((d * 16777216 : Nat) : Int) = ((0 + a + b * 256 + c * 65536 + d * 16777216 : Nat) : Int) := or_join _ _ 24 (by omega) (by omega) (by decide) (by omega)
  rw [show ((b : Int) * 256) = ((b * 256 : Nat) : Int) by simp, show ((c : Int) * 65536) = ((c * 65536 : Nat) : Int) by simp, show ((d : Int) * 16777216) = ((d * 16777216 : Nat) : Int) by simp, e0, e1, e2, e3]
  omega
set_option maxRecDepth 100000 in
set_option maxHeartbeats 1600000 in
theorem word_any {w : World} {g B : Nat} {A : Option Addr} {c : Nat} {PQ : List (Nat × Nat)} {Ss : List Sg} {Bs : List (List UInt8)} (h : MemX w g B A c PQ Ss Bs) {a : Int} (ha : i64 a) :
    Calls Try.prog 9 #[.pointer (some ⟨g, 0, none⟩), .int .i64 a] w fun e w' => e = .returned (.tuple #[.int .i64 (val4 (loadR Ss Bs a 4).1), .bool (loadR Ss Bs a 4).2]) ∧ Below w.heap.size w w' := by
  have hR := loadR_four Ss Bs a
  obtain ⟨R, hRd⟩ : ∃ R, R = loadR Ss Bs a 4 := ⟨_, rfl⟩
  rw [← hRd] at hR ⊢
  have HRd := Lib.hid hRd
  clear hRd
  obtain ⟨l, is⟩ := R
  simp only at hR ⊢
  go_enter Try.func9, Try.ntmps9
  go_wp2_with fail
  refine (load_any h (n := 4) ha (by unfold i64; decide)).mono ?_
  rintro e w2 ⟨v2, rfl, hown2, hb2⟩
  rw [← HRd.out] at hown2 ⊢
  simp only at hown2 ⊢
  clear HRd
  rcases hR with ⟨rfl, rfl⟩ | ⟨rfl, x0, x1, x2, x3, rfl⟩
  · obtain ⟨V, vc, rfl, hs, -⟩ := SlB.of_own hown2
    go_wp2_with fail
    refine wp_loop_rounds 1 ?_
    rw [rounds_succ]
    go_wp2_with fail
    go_ret2
    exact ⟨rfl, hb2⟩
  · obtain ⟨V, vc, rfl, hs, -⟩ := SlB.of_own hown2
    simp only [List.length_cons, List.length_nil, Nat.zero_add, Nat.reduceAdd] at hs ⊢
    obtain ⟨b, o, rfl, hbl, -⟩ := hs.at_ (k := 0) (by decide)
    have e0 : w2.cell? ⟨b, o, none⟩ = some (.int .u8 (x0.toNat : Int)) := by obtain ⟨b', o', e, _, hc⟩ := hs.at_ (k := 0) (by decide); cases e; simpa [atB] using hc
    have e1 : w2.cell? ⟨b, o + 1, none⟩ = some (.int .u8 (x1.toNat : Int)) := by obtain ⟨b', o', e, _, hc⟩ := hs.at_ (k := 1) (by decide); cases e; simpa [atB] using hc
    have e2 : w2.cell? ⟨b, o + 2, none⟩ = some (.int .u8 (x2.toNat : Int)) := by obtain ⟨b', o', e, _, hc⟩ := hs.at_ (k := 2) (by decide); cases e; simpa [atB] using hc
    have e3 : w2.cell? ⟨b, o + 3, none⟩ = some (.int .u8 (x3.toNat : Int)) := by obtain ⟨b', o', e, _, hc⟩ := hs.at_ (k := 3) (by decide); cases e; simpa [atB] using hc
    have HV : Hid (val4 [x0, x1, x2, x3] = (x0.toNat : Int) + 256 * x1.toNat + 65536 * x2.toNat + 16777216 * x3.toNat) := rfl
    have z0 := u8_lt x0; have z1 := u8_lt x1; have z2 := u8_lt x2; have z3 := u8_lt x3
    generalize x0.toNat = n0 at *
    generalize x1.toNat = n1 at *
    generalize x2.toNat = n2 at *
    generalize x3.toNat = n3 at *
    go_wp2_with fail
    refine wp_loop_rounds 5 ?_
    rw [rounds_succ]
    go_wp2_with fail
    rw [rounds_succ]
    go_wp2_with fail
    rw [rounds_succ]
    go_wp2_with fail
    rw [rounds_succ]
    go_wp2_with fail
    rw [rounds_succ]
    go_wp2_with fail
    rw [or_four z0 z1 z2 z3]
    go_ret2
    exact ⟨by rw [HV.out]; rfl, hb2⟩
theorem Blk.set4 {w : World} {g : Nat} {t : TypeId} {a b c d : Value} (h : Blk w g t #[a, b, c, d]) (x0 x1 x2 x3 : Value) : Blk ((((w.setCell ⟨g, 0, none⟩ x0).setCell ⟨g, 1, none⟩ x1).setCell ⟨g, 2, none⟩ x2).setCell ⟨g, 3, none⟩ x3) g t #[x0, x1, x2, x3] :=
  (((h.set_ 0 x0).set_ 1 x1).set_ 2 x2).set_ 3 x3
theorem below_set4 {B g : Nat} {w w' : World} (h : Below B w w') (hg : B ≤ g) (x0 x1 x2 x3 : Value) : Below B w ((((w'.setCell ⟨g, 0, none⟩ x0).setCell ⟨g, 1, none⟩ x1).setCell ⟨g, 2, none⟩ x2).setCell ⟨g, 3, none⟩ x3) :=
  (((h.setCell hg _).setCell hg _).setCell hg _).setCell hg _
def putB (n : Int) : List UInt8 := [ob (n % 256).toNat, ob (n / 256 % 256).toNat, ob (n / 65536 % 256).toNat, ob (n / 16777216 % 256).toNat]
theorem putB_bv (n : Int) : (putB n).map bv = [.int .u8 (n % 256), .int .u8 (n / 256 % 256), .int .u8 (n / 65536 % 256), .int .u8 (n / 16777216 % 256)] := by
  have h : ∀ m : Int, bv (ob (m % 256).toNat) = .int .u8 (m % 256) := fun m => by
    unfold bv
    rw [ob_toNat (by omega)]
    congr 1
    omega
  simp [putB, h]
theorem run_mk4 (w : World) : (Instr.makeSlice 39 (.int .i64 4) (.int .i64 4)).run Try.prog w = .ok (.slice (some ⟨w.heap.size, 0, none⟩) 4 4) (w.alloc (.cells #[.int .u8 0, .int .u8 0, .int .u8 0, .int .u8 0] 5)) := by kernel_rfl
set_option maxRecDepth 100000 in
set_option maxHeartbeats 1600000 in
theorem put_any {w : World} {g B : Nat} {A : Option Addr} {c : Nat} {PQ : List (Nat × Nat)} {Ss : List Sg} {Bs : List (List UInt8)} (h : MemX w g B A c PQ Ss Bs) {a n : Int} (ha : i64 a) (hn : i64 n) :
    Calls Try.prog 8 #[.pointer (some ⟨g, 0, none⟩), .int .i64 a, .int .i64 n] w fun e w' => e = .returned (.bool (storeR Ss Bs a (putB n)).2) ∧ MemX w' g B A c PQ Ss (storeR Ss Bs a (putB n)).1 ∧ Fr (QS PQ Ss.length) w w' := by
  have hmk := run_mk4
  have hb1 := (Below.refl w.heap.size w).alloc (Nat.le_refl _) (.cells #[.int .u8 0, .int .u8 0, .int .u8 0, .int .u8 0] 5)
  have b1 := Blk.new w 5 #[.int .u8 0, .int .u8 0, .int .u8 0, .int .u8 0]
  go_enter Try.func8, Try.ntmps8
  go_upto_region 2 with fail
  generalize w.alloc (.cells #[.int .u8 0, .int .u8 0, .int .u8 0, .int .u8 0] 5) = w1 at hb1 b1 ⊢
  clear hmk
  have e0 : w1.cell? ⟨w.heap.size, 0, none⟩ = some (.int .u8 0) := b1.cell 0
  have e1 : w1.cell? ⟨w.heap.size, 1, none⟩ = some (.int .u8 0) := b1.cell 1
  have e2 : w1.cell? ⟨w.heap.size, 2, none⟩ = some (.int .u8 0) := b1.cell 2
  have e3 : w1.cell? ⟨w.heap.size, 3, none⟩ = some (.int .u8 0) := b1.cell 3
  have hf : ∀ i, w1.frozen? ⟨w.heap.size, i, none⟩ = false := b1.frozen
  have hl1 := b1.lt
  go_wp2_with fail
  refine wp_loop_rounds 5 ?_
  rw [rounds_succ]
  go_wp2_with fail
  rw [rounds_succ]
  go_wp2_with fail
  rw [rounds_succ]
  go_wp2_with fail
  rw [rounds_succ]
  go_wp2_with fail
  rw [rounds_succ]
  go_wp2_with fail
  have b2 := Blk.set4 b1 (.int .u8 (n % 256)) (.int .u8 (n / 256 % 256)) (.int .u8 (n / 65536 % 256)) (.int .u8 (n / 16777216 % 256))
  have hb2 := below_set4 (g := w.heap.size) hb1 (Nat.le_refl _) (.int .u8 (n % 256)) (.int .u8 (n / 256 % 256)) (.int .u8 (n / 65536 % 256)) (.int .u8 (n / 16777216 % 256))
  generalize (((w1.setCell ⟨w.heap.size, 0, none⟩ (.int .u8 (n % 256))).setCell ⟨w.heap.size, 1, none⟩ (.int .u8 (n / 256 % 256))).setCell ⟨w.heap.size, 2, none⟩ (.int .u8 (n / 65536 % 256))).setCell ⟨w.heap.size, 3, none⟩ (.int .u8 (n / 16777216 % 256)) = w2 at b2 hb2 ⊢
  have hsl : SlB w2 (some ⟨w.heap.size, 0, none⟩) 4 4 (putB n) := SlB.of_blk b2 (putB n) (by rw [putB_bv]) (by show 4 ≤ 1000000; decide)
  refine (store_any (h.keep hb2) ha hsl).mono ?_
  rintro e w3 ⟨rfl, hx, f3⟩
  go_wp2_with fail
  go_ret
  exact ⟨rfl, hx, (Fr.of_below hb2 _).trans f3⟩
end Go.Proofs.Ytpgglefimdllbaa
