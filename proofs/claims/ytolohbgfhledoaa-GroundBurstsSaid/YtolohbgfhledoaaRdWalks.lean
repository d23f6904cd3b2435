/- The walks of the reader of numbers (package wire). -/
import Derived.Test.YtolohbgfhledoaaVarWalks
import Derived.Test.YtolohbgfhledoaaRdSpec
import Derived.Test.YtolohbgfhledoaaCut
namespace Go.Proofs.Ytolohbgfhledoaa
open Go.RowKit
theorem xor_m1 {q : Nat} (hq : q < 9223372036854775808) : bits .xor .i64 (q : Int) (-1) = -(q : Int) - 1 := by
  have e1 : BitVec.ofInt 64 (-1) = BitVec.allOnes 64 := by decide
  have key : (BitVec.ofInt 64 (q : Int) ^^^ BitVec.ofInt 64 (-1)).toNat = 18446744073709551615 - q := by
    rw [e1, BitVec.xor_allOnes, BitVec.toNat_not, BitVec.toNat_ofInt]
    omega
  show IntKind.i64.wrap ((BitVec.ofInt 64 (q : Int) ^^^ BitVec.ofInt 64 (-1)).toNat : Nat) = _
  rw [key, IntKind.wrap_i64]
  omega
theorem xor_0 {q : Nat} (hq : q < 9223372036854775808) : bits .xor .i64 (q : Int) 0 = (q : Int) := by
  have key : (BitVec.ofInt 64 (q : Int) ^^^ BitVec.ofInt 64 0).toNat = q := by
    rw [show BitVec.ofInt 64 0 = 0#64 by decide, BitVec.xor_zero, BitVec.toNat_ofInt]
    omega
  show IntKind.i64.wrap ((BitVec.ofInt 64 (q : Int) ^^^ BitVec.ofInt 64 0).toNat : Nat) = _
  rw [key, IntKind.wrap_i64]
  omega
theorem and1_64 {q : Nat} (hq : q < 18446744073709551616) : bits .and .u64 (q : Int) 1 = ((q % 2 : Nat) : Int) := by
  have := u64_and_nat q 1 hq (by decide)
  rw [Nat.and_one_is_mod] at this
  exact this
theorem back_any {w : World} {u : Nat} (hu : u < 18446744073709551616) :
    Calls Try.prog 46 #[.int .u64 (u : Int)] w fun e w' => e = .returned (.int .i64 (unt u)) ∧ w = w' := by
  have h2 : ((u : Int) / 2) = ((u / 2 : Nat) : Int) := by simp
  have HA := Lib.hid (and1_64 hu)
  by_cases ho : u % 2 = 1
  · have HU : Hid (unt u = -((u / 2 : Nat) : Int) - 1) := by unfold Hid unt; rw [if_pos ho]
    have HX := Lib.hid (xor_m1 (q := u / 2) (by omega))
    have HA1 : Hid (bits .and .u64 (u : Int) 1 = 1) := by unfold Hid; rw [HA.out, ho]; rfl
    have hA := HA1.out
    clear HA HA1 ho h2
    go_enter Try.func46, Try.ntmps46
    go_wp2_with fail
    go_ret
    exact ⟨by rw [HU.out, ← HX.out]; rfl, rfl⟩
  · have HU : Hid (unt u = ((u / 2 : Nat) : Int)) := by unfold Hid unt; rw [if_neg ho]
    have HX := Lib.hid (xor_0 (q := u / 2) (by omega))
    have HA1 : Hid (bits .and .u64 (u : Int) 1 = 0) := by unfold Hid; rw [HA.out, show u % 2 = 0 by omega]; rfl
    have hA := HA1.out
    clear HA HA1 ho h2
    go_enter Try.func46, Try.ntmps46
    go_wp2_with fail
    go_ret
    exact ⟨by rw [HU.out, ← HX.out]; rfl, rfl⟩

/-! ### The reader: two cells at block g -/
def RdB (w : World) (g B : Nat) (A : Option Addr) (n : Nat) : Prop := g < B ∧ B ≤ w.heap.size ∧ ∀ b o, 0 < n → A = some ⟨b, o, none⟩ → b < B
theorem RdB.up {w w' : World} {g B n : Nat} {A : Option Addr} (h : RdB w g B A n) (hs : w.heap.size ≤ w'.heap.size) : RdB w' g B A n := ⟨h.1, Nat.le_trans h.2.1 hs, h.2.2⟩
/-- a reader at block g; what it reads lies below B -/
def RdSt (w : World) (g B : Nat) (s : RS) : Prop := ∃ A n c, Blk w g 95 #[.slice A n c, .int .i64 s.e] ∧ SlB w A n c s.l ∧ RdB w g B A n
theorem RdSt.keep {w w' : World} {g B : Nat} {s : RS} (h : RdSt w g B s) (hb : Below w.heap.size w w') : RdSt w' g B s := by
  obtain ⟨A, n, c, h1, h2, h3⟩ := h
  exact ⟨A, n, c, h1.keep hb, h2.keep hb, h3.up hb.size⟩
theorem rd_ne {w : World} {g n c : Nat} {A : Option Addr} {e : Int} {l : List UInt8} {t : TypeId} (h1 : Blk w g t #[.slice A n c, .int .i64 e]) (h2 : SlB w A n c l) : ∀ b o, 0 < n → A = some ⟨b, o, none⟩ → ¬ b = g := by
  intro b o hn e' hb
  subst hb
  obtain ⟨b', o', e'', _, hc⟩ := h2.at_ (k := 0) hn
  rw [e'] at e''
  cases e''
  rw [h1.cell] at hc
  match o, hc with
  | 0, hc => simp at hc
  | 1, hc => simp at hc
  | o + 2, hc => simp at hc
theorem RdSt.fr {w w' : World} {g B : Nat} {s : RS} {S : Nat → Prop} (h : RdSt w g B s) (hb : Fr S w w') (hS : ∀ k, S k → B ≤ k) : RdSt w' g B s := by
  obtain ⟨A, n, c, h1, h2, h3⟩ := h
  refine ⟨A, n, c, h1.fr hb (fun h => ?_), h2.fr hb (fun b o hn e h => ?_), h3.up hb.size⟩
  · have := hS g h; have := h3.1; omega
  · have := h3.2.2 b o hn e
    have := hS b h
    omega
/-- what comes of the reader's error -/
def errS (s : RS) (e : Int) : RS := ⟨s.l, if s.e = 0 then e else s.e⟩
theorem fail_any {w : World} {g B : Nat} {s : RS} (h : RdSt w g B s) (e : Int) :
    Calls Try.prog 45 #[.pointer (some ⟨g, 0, none⟩), .int .i64 e] w fun x w' => x = .returned (.tuple #[]) ∧ RdSt w' g B (errS s e) ∧ Fr (fun k => k = g) w w' := by
  obtain ⟨A, n, c, h1, h2, h3⟩ := h
  obtain ⟨l, se⟩ := s
  simp only at h1 h2
  have hne := rd_ne h1 h2
  have c1 : w.cell? ⟨g, 1, none⟩ = some (.int .i64 se) := h1.cell 1
  have f1 := h1.frozen 1
  have hgl := h1.lt
  by_cases h0 : se = 0
  · subst h0
    go_enter Try.func45, Try.ntmps45
    go_wp2_with fail
    go_end0
    have hf : Fr (fun k => k = g) w (w.setCell ⟨g, 1, none⟩ (.int .i64 e)) := (Fr.refl (fun k => k = g) w).setCell (p := ⟨g, 1, none⟩) (fun _ => rfl) _
    exact ⟨rfl, ⟨A, n, c, h1.set_ 1 _, h2.fr hf hne, h3.up hf.size⟩, hf⟩
  · have h0' : (se == 0) = false := by simpa using h0
    have HE : Hid (errS ⟨l, se⟩ e = ⟨l, se⟩) := by unfold Hid errS; simp only [if_neg h0]
    clear h0
    go_enter Try.func45, Try.ntmps45
    go_wp2_with fail
    go_end0
    exact ⟨rfl, by rw [HE.out]; exact ⟨A, n, c, h1, h2, h3⟩, Fr.refl _ _⟩
/-- the next byte -/
def nxt (s : RS) : UInt8 × RS := if s.e = 0 then (match s.l with | [] => (0, ⟨[], 10⟩) | x :: r => (x, ⟨r, 0⟩)) else (0, s)
theorem size1 (w : World) : (sizeOf (Try.prog.elem 24)).run Try.prog w = .ok 1 w := by kernel_rfl
theorem u_bytes : Try.prog.underlying 24 = some (.slice (Try.prog.elem 24)) := by kernel_rfl
set_option maxRecDepth 100000 in
theorem next_any {w : World} {g B : Nat} {s : RS} (h : RdSt w g B s) :
    Calls Try.prog 52 #[.pointer (some ⟨g, 0, none⟩)] w fun x w' => x = .returned (.int .u8 ((nxt s).1.toNat : Int)) ∧ RdSt w' g B (nxt s).2 ∧ Fr (fun k => k = g) w w' := by
  obtain ⟨l, se⟩ := s
  have h' := h
  obtain ⟨A, n, c, h1, h2, h3⟩ := h
  simp only at h1 h2
  have hne := rd_ne h1 h2
  have hll := h2.2
  have hn := h2.len
  have c0 : w.cell? ⟨g, 0, none⟩ = some (.slice A n c) := h1.cell 0
  have c1 : w.cell? ⟨g, 1, none⟩ = some (.int .i64 se) := h1.cell 1
  have f0 := h1.frozen 0
  have hgl := h1.lt
  by_cases h0 : se = 0
  · subst h0
    cases l with
    | nil =>
      have hn0 : n = 0 := by simpa using hll.symm
      subst hn0
      go_enter Try.func52, Try.ntmps52
      go_wp2_with fail
      refine (fail_any h' 10).mono ?_
      rintro x w2 ⟨rfl, hr2, hf2⟩
      have hr2' := hr2
      obtain ⟨A2, n2, c2, k1, k2, k3⟩ := hr2
      have d1 : w2.cell? ⟨g, 1, none⟩ = some (.int .i64 10) := k1.cell 1
      go_wp2_with fail
      go_ret
      exact ⟨rfl, hr2', hf2⟩
    | cons y r =>
      obtain ⟨m, rfl⟩ : ∃ m, n = m + 1 := ⟨r.length, by simpa using hll.symm⟩
      have hz : ((m : Int) + 1 == 0) = false := by simp; omega
      obtain ⟨b, o, rfl, hb, hc⟩ := h2.at_ (k := 0) (by omega)
      have hbg := hne b o (by omega) rfl
      rw [Nat.add_zero, show atB (y :: r) 0 = y from rfl] at hc
      have hsl := fun w => run_cut_l u_bytes size1 w (some ⟨b, o, none⟩) (m + 1) c 1 (by omega)
      rw [show ((1 : Nat) : Int) = 1 from rfl, show m + 1 - 1 = m from rfl] at hsl
      have hcut := h2.cut (lo := 1) (hi := m + 1) (by omega) (Nat.le_refl _)
      rw [show m + 1 - 1 = m from rfl, show ((y :: r).drop 1).take m = r from by rw [List.drop_one, List.tail_cons]; exact List.take_of_length_le (by simp at hll; omega)] at hcut
      have hml : r.length = m := by simpa using hll
      clear hll
      go_enter Try.func52, Try.ntmps52
      go_wp2_with fail
      go_ret
      have hf : Fr (fun k => k = g) w (w.setCell ⟨g, 0, none⟩ (.slice (slA (some ⟨b, o, none⟩) 1 c 1) m (c - 1))) := (Fr.refl (fun k => k = g) w).setCell (p := ⟨g, 0, none⟩) (fun _ => rfl) _
      have hsame : ∀ b' o', slA (some ⟨b, o, none⟩) 1 c 1 = some ⟨b', o', none⟩ → b' = b := fun b' o' e => by
        unfold slA at e
        split at e
        · cases e; rfl
        · simp [add_none] at e; exact e.1.symm
      refine ⟨rfl, ⟨_, m, c - 1, h1.set_ 0 _, hcut.fr hf (fun b' o' hm e => ?_), h3.1, Nat.le_trans h3.2.1 hf.size, fun b' o' hm e => ?_⟩, hf⟩
      · rw [hsame b' o' e]; exact hbg
      · rw [hsame b' o' e]; exact h3.2.2 b o (by omega) rfl
  · have h0' : (se != 0) = true := by simpa using h0
    have HX : Hid (nxt ⟨l, se⟩ = (0, ⟨l, se⟩)) := by unfold Hid nxt; rw [if_neg h0]
    have HE : Hid (errS ⟨l, se⟩ 10 = ⟨l, se⟩) := by unfold Hid errS; simp only [if_neg h0]
    clear h0
    by_cases hn0 : n = 0
    · subst hn0
      go_enter Try.func52, Try.ntmps52
      go_wp2_with fail
      refine (fail_any h' 10).mono ?_
      rintro x w2 ⟨rfl, hr2, hf2⟩
      rw [HE.out] at hr2
      have hr2' := hr2
      obtain ⟨A2, n2, c2, k1, k2, k3⟩ := hr2
      have d1 : w2.cell? ⟨g, 1, none⟩ = some (.int .i64 se) := k1.cell 1
      go_wp2_with fail
      go_ret
      exact ⟨by rw [HX.out]; rfl, by rw [HX.out]; exact hr2', hf2⟩
    · have hz : ((n : Int) == 0) = false := by simp; omega
      clear hn0
      go_enter Try.func52, Try.ntmps52
      go_wp2_with fail
      go_ret
      exact ⟨by rw [HX.out]; rfl, by rw [HX.out]; exact h', Fr.refl _ _⟩
/-- what word tells -/
def WordRes (r : Rd) (u : Nat) (b : Bool) (s : RS) : Prop :=
  match r with
  | .ok v rest => u = v ∧ b = true ∧ s = ⟨rest, 0⟩
  | .cut => u = 0 ∧ s = ⟨[], 10⟩
  | .form rest => u = 0 ∧ b = false ∧ s = ⟨rest, 0⟩
theorem word_err {w : World} {g B : Nat} {s : RS} (h : RdSt w g B s) (h0 : s.e ≠ 0) :
    Calls Try.prog 44 #[.pointer (some ⟨g, 0, none⟩)] w fun x w' => x = .returned (.tuple #[.int .u64 0, .bool true]) ∧ RdSt w' g B s ∧ Fr (fun k => k = g) w w' := by
  have HX : Hid (nxt s = (0, s)) := by unfold Hid nxt; rw [if_neg h0]
  go_enter Try.func44, Try.ntmps44
  go_wp2_with fail
  refine wp_loop_rounds 2 ?_
  rw [rounds_succ]
  go_wp2_with fail
  refine (next_any h).mono ?_
  rintro x w2 ⟨rfl, hr2, hf2⟩
  rw [HX.out] at hr2 ⊢
  go_wp2_with fail
  go_ret2
  exact ⟨rfl, hr2, hf2⟩
theorem and127 {z : Nat} (hz : z < 256) : bits .and .u8 (z : Int) 127 = ((z % 128 : Nat) : Int) := by
  have := u8_and_nat z 127 hz (by decide)
  rw [show (127 : Nat) = 2 ^ 7 - 1 from rfl, Nat.and_two_pow_sub_one_eq_mod] at this
  exact this
theorem or_word {k acc z : Nat} (hk : k ≤ 9) (hacc : acc < 128 ^ k) (hz : z < 256) (h9 : k = 9 → z ≤ 1) :
    bits .or .u64 (acc : Int) (IntKind.u64.wrap (IntKind.u64.wrap (bits .and .u8 (z : Int) 127) * 2 ^ (7 * k))) = ((acc + z % 128 * 128 ^ k : Nat) : Int) := by
  have hp : (128 : Nat) ^ k = 2 ^ (7 * k) := by rw [show (128 : Nat) = 2 ^ 7 from rfl, ← Nat.pow_mul]
  have hb : z % 128 * 128 ^ k + 128 ^ k ≤ 18446744073709551616 := by
    by_cases h : k = 9
    · subst h
      have := h9 rfl
      have : z % 128 ≤ 1 := by omega
      have := Nat.mul_le_mul_right (128 ^ 9) this
      have e9 : (128 : Nat) ^ 9 = 9223372036854775808 := by decide
      generalize (128 : Nat) ^ 9 = Z at this e9 ⊢
      omega
    · have h1 : z % 128 * 128 ^ k + 128 ^ k ≤ 128 * 128 ^ k := by
        have : (z % 128 + 1) * 128 ^ k ≤ 128 * 128 ^ k := Nat.mul_le_mul_right _ (by omega)
        rw [Nat.add_mul] at this
        omega
      have h2 : (128 : Nat) ^ k ≤ 128 ^ 8 := Nat.pow_le_pow_right (by decide) (by omega)
      rw [show (128 : Nat) ^ 8 = 72057594037927936 by decide] at h2
      omega
  have hpos : 0 < (128 : Nat) ^ k := Nat.pow_pos (by decide)
  have e1 : IntKind.u64.wrap (bits .and .u8 (z : Int) 127) = ((z % 128 : Nat) : Int) := by
    rw [and127 hz]
    exact IntWalk.u64_in _ (by omega)
  have e2 : ((z % 128 : Nat) : Int) * 2 ^ (7 * k) = ((z % 128 * 128 ^ k : Nat) : Int) := by
    rw [hp]
    simp
  rw [e1, e2, IntWalk.u64_in _ (by omega), u64_or_nat _ _ (by omega) (by omega)]
  congr 1
  rw [hp] at hacc ⊢
  rw [Nat.or_comm, Nat.mul_comm (z % 128), ← Nat.two_pow_add_eq_or_of_lt hacc, Nat.add_comm]
set_option maxRecDepth 100000 in
set_option maxHeartbeats 1000000 in
theorem word_ok {w : World} {g B : Nat} {l : List UInt8} (h : RdSt w g B ⟨l, 0⟩) :
    Calls Try.prog 44 #[.pointer (some ⟨g, 0, none⟩)] w fun x w' => ∃ (u : Nat) (b : Bool) (s : RS), x = .returned (.tuple #[.int .u64 (u : Int), .bool b]) ∧ WordRes (rdW l 0 0) u b s ∧ RdSt w' g B s ∧ Fr (fun k => k = g) w w' := by
  go_enter Try.func44, Try.ntmps44
  go_wp2_with fail
  go_loopw [4, 7] (fun v i wr => ∃ (k acc : Nat) (r : List UInt8), k ≤ 9 ∧ i = .int .i64 k ∧ v = .int .u64 (acc : Int) ∧ acc < 128 ^ k ∧ Hid (rdW l 0 0 = rdW r k acc) ∧ RdSt wr g B ⟨r, 0⟩ ∧ Fr (fun k => k = g) w wr) (fun _ i _ => 10 - (intOf i).toNat)
  case atStart => exact ⟨0, 0, l, by omega, rfl, rfl, by decide, rfl, h, Fr.refl _ _⟩
  case round =>
    obtain ⟨k, acc, r, hk, rfl, rfl, hacc, HR, hr, hfw⟩ := hrel
    have hnx : (nxt ⟨r, 0⟩).1.toNat < 256 := u8_lt _
    go_wp2_with fail
    refine (next_any hr).mono ?_
    rintro x w2 ⟨rfl, hr2, hf2⟩
    have HN : Hid ((r = [] ∧ (nxt ⟨r, 0⟩).1.toNat = 0 ∧ (nxt ⟨r, 0⟩).2 = ⟨[], 10⟩) ∨ ∃ y q, r = y :: q ∧ (nxt ⟨r, 0⟩).1.toNat = y.toNat ∧ (nxt ⟨r, 0⟩).2 = ⟨q, 0⟩) := by
      cases r with
      | nil => exact .inl ⟨rfl, rfl, rfl⟩
      | cons y q => exact .inr ⟨y, q, rfl, rfl, rfl⟩
    have HF := Lib.hid (hfw.trans hf2)
    clear hf2 hfw hr
    generalize (nxt ⟨r, 0⟩).1.toNat = z at hnx HN ⊢
    generalize (nxt ⟨r, 0⟩).2 = s2 at hr2 HN ⊢
    have HO := fun h => Lib.hid (or_word (k := k) (acc := acc) (z := z) hk hacc hnx h)
    by_cases hbad : (k = 9 ∧ 1 < z) ∨ (0 < k ∧ z = 0)
    · have hres : WordRes (rdW l 0 0) 0 false s2 := by
        rw [HR.out]
        rcases HN.out with ⟨rfl, h1, rfl⟩ | ⟨y, q, rfl, h1, rfl⟩
        · exact ⟨rfl, rfl⟩
        · rw [rdW, if_neg (fun hok => by have := okB_u hok; omega)]
          exact ⟨rfl, rfl, rfl⟩
      have HRES := Lib.hid hres
      clear hres HO HN HR
      by_cases h9 : k = 9
      · by_cases hz : 1 < z
        · have t1 : decide ((1 : Int) < z) = true := by simp; omega
          have t0 : ((k : Int) == 9) = true := by simp; omega
          clear hbad h9 hz
          go_wp2_with fail
          go_ret2
          exact ⟨0, false, s2, rfl, HRES.out, hr2, HF.out⟩
        · have t1 : decide ((1 : Int) < z) = false := by simp; omega
          have t2 : ((z : Int) == 0) = true := by simp; omega
          have t3 : 0 < k := by omega
          have t0 : ((k : Int) == 9) = true := by simp; omega
          clear hbad h9 hz
          go_wp2_with fail
          go_ret2
          exact ⟨0, false, s2, rfl, HRES.out, hr2, HF.out⟩
      · have t2 : ((z : Int) == 0) = true := by simp; omega
        have t3 : 0 < k := by omega
        have t0 : ((k : Int) == 9) = false := by simp; omega
        clear hbad h9
        go_wp2_with fail
        go_ret2
        exact ⟨0, false, s2, rfl, HRES.out, hr2, HF.out⟩
    · have HA := HO (by omega)
      clear HO
      have hcase : (k = 9 ∧ z = 1) ∨ (k = 0) ∨ (0 < k ∧ k < 9 ∧ 0 < z) := by omega
      by_cases hlt : z < 128
      · have hres : WordRes (rdW l 0 0) (acc + z % 128 * 128 ^ k) true s2 := by
          rw [HR.out]
          rcases HN.out with ⟨rfl, h1, rfl⟩ | ⟨y, q, rfl, h1, rfl⟩
          · have hk0 : k = 0 := by omega
            subst hk0 h1
            refine ⟨?_, rfl⟩
            simp at hacc
            simp [hacc]
          · rw [rdW, if_pos (okB_of (fun h => by omega) (fun h => by omega)), if_pos (by omega), ← h1]
            exact ⟨rfl, rfl, rfl⟩
        have HRES := Lib.hid hres
        have hlt' : decide ((z : Int) < 128) = true := by simp; omega
        clear hres HN HR hbad hlt
        rcases hcase with ⟨h9, hz⟩ | hk0 | ⟨hk0, h9, hz⟩
        · have t1 : decide ((1 : Int) < z) = false := by simp; omega
          have t2 : ((z : Int) == 0) = false := by simp; omega
          have t3 : 0 < k := by omega
          have t0 : ((k : Int) == 9) = true := by simp; omega
          clear h9 hz
          go_wp2_with fail
          rw [HA.out]
          go_ret2
          exact ⟨_, true, s2, rfl, HRES.out, hr2, HF.out⟩
        · have t3 : ¬ 0 < k := by omega
          have t0 : ((k : Int) == 9) = false := by simp; omega
          clear hk0
          go_wp2_with fail
          rw [HA.out]
          go_ret2
          exact ⟨_, true, s2, rfl, HRES.out, hr2, HF.out⟩
        · have t2 : ((z : Int) == 0) = false := by simp; omega
          have t3 : 0 < k := by omega
          have t0 : ((k : Int) == 9) = false := by simp; omega
          clear h9 hz hk0
          go_wp2_with fail
          rw [HA.out]
          go_ret2
          exact ⟨_, true, s2, rfl, HRES.out, hr2, HF.out⟩
      · have hlt' : decide ((z : Int) < 128) = false := by simp; omega
        have hk8 : k < 9 := by omega
        have hz0 : 0 < z := by omega
        have hacc2 : acc + z % 128 * 128 ^ k < 128 ^ (k + 1) := by
          rw [Nat.pow_succ, Nat.mul_comm (128 ^ k) 128]
          have : z % 128 * 128 ^ k ≤ 127 * 128 ^ k := Nat.mul_le_mul_right _ (by omega)
          omega
        obtain ⟨q, hs2, hrw⟩ : ∃ q, s2 = ⟨q, 0⟩ ∧ rdW l 0 0 = rdW q (k + 1) (acc + z % 128 * 128 ^ k) := by
          rw [HR.out]
          rcases HN.out with ⟨rfl, h1, rfl⟩ | ⟨y, q, rfl, h1, rfl⟩
          · omega
          · refine ⟨q, rfl, ?_⟩
            rw [rdW, if_pos (okB_of (fun h => by omega) (fun h => by omega)), if_neg (by omega), ← h1]
        subst hs2
        have HRW := Lib.hid hrw
        clear hrw HN HR hbad hlt
        have t2 : ((z : Int) == 0) = false := by simp; omega
        have t0 : ((k : Int) == 9) = false := by simp; omega
        have h0c : 0 < k ∨ ¬ 0 < k := by omega
        clear hcase hz0
        rcases h0c with t3 | t3
        all_goals
          go_wp2_with fail
          rw [HA.out]
          exact ⟨⟨k + 1, _, q, by omega, by go_num, rfl, hacc2, HRW, hr2, HF.out⟩, by simp [intOf]; omega⟩
end Go.Proofs.Ytolohbgfhledoaa
