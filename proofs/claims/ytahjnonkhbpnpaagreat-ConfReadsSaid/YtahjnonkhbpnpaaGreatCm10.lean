/- Words and walks for the claims of this seat, merged: RtInt, RrBase, RrOne, RrMode. -/
import Derived.Deep.DeepCutAuto
import Derived.Deep.CutRange
import Derived.Test.YtahjnonkhbpnpaaGreatCm0
import Derived.Test.YtahjnonkhbpnpaaGreatCm1
import Derived.Test.YtahjnonkhbpnpaaGreatCm5
import Derived.Test.YtahjnonkhbpnpaaGreatCm6
import Derived.Test.YtahjnonkhbpnpaaGreatCm9
/- The document's reading of a number: TakeInt walked. -/
namespace Go.Proofs.YtahjnonkhbpnpaaGreat
open Go.RowKit
/-- what the document's TakeInt answers, of how many bytes there are and what is read -/
def tkV (n : Nat) : RdO → Int × Int × Int
  | .ok u r => (unt u, ((n - r.length : Nat) : Int), 0)
  | .cut => (0, 0, 10)
  | .form _ => (0, 0, 12)
def tkR (l : List UInt8) (at_ : Nat) : Int × Int × Int := tkV l.length (rdW (l.drop at_) 0 0)
theorem tkR_gInt (l : List UInt8) (at_ : Nat) : tkR l at_ = if (gInt ⟨l.drop at_, 0⟩).2.e = 0 then ((gInt ⟨l.drop at_, 0⟩).1, ((l.length - (gInt ⟨l.drop at_, 0⟩).2.l.length : Nat) : Int), 0) else (0, 0, (gInt ⟨l.drop at_, 0⟩).2.e) := by
  unfold tkR gInt
  simp only [ne_eq, not_true_eq_false, if_false]
  cases rdW (l.drop at_) 0 0 <;> simp [tkV]
theorem drop_at (l : List UInt8) (k : Nat) (h : k < l.length) : l.drop k = atB l k :: l.drop (k + 1) := by
  rw [List.drop_eq_getElem_cons h]
  simp [atB, h]
set_option maxRecDepth 100000 in
set_option maxHeartbeats 1000000 in
theorem takeIntR_any {w : World} {A : Option Addr} {n c : Nat} {l : List UInt8} (hl : SlB w A n c l) (hn : n ≤ 1000000) {a : Nat} (ha : a ≤ n) :
    Calls Tryz.prog 106 #[.slice A n c, .int .i64 (a : Int)] w fun x w' => x = .returned (.tuple #[.int .i64 (tkR l a).1, .int .i64 (tkR l a).2.1, .int .i64 (tkR l a).2.2]) ∧ w = w' := by
  have hln := hl.2
  have HT : Hid (tkR l a = tkV n (rdW (l.drop a) 0 0)) := by unfold Hid tkR; rw [← hln]
  generalize tkR l a = T at HT ⊢
  go_enter Tryz.func106, Tryz.ntmps106
  go_wp2_with fail
  obtain ⟨wo, rfl⟩ : ∃ wo : World, wo = w := ⟨_, rfl⟩
  go_loopw [7, 8, 9] (fun v m i wr => ∃ (k acc : Nat), k ≤ 9 ∧ a + k ≤ n ∧ i = .int .i64 k ∧ v = .int .u64 (acc : Int) ∧ m = .int .u64 ((128 ^ k : Nat) : Int) ∧ acc < 128 ^ k ∧ Hid (rdW (l.drop a) 0 0 = rdW (l.drop (a + k)) k acc) ∧ wr = wo) (fun _ _ i _ => 10 - (intOf i).toNat)
  case atStart => exact ⟨0, 0, by omega, by omega, rfl, rfl, rfl, by decide, rfl, rfl⟩
  case round =>
    obtain ⟨k, acc, hk, hak, rfl, rfl, rfl, hacc, HR, rfl⟩ := hrel
    have h10 : (k : Int) < 10 := by omega
    by_cases hend : a + k = n
    · have ht : (n : Int) ≤ (a : Int) + k := by omega
      have hres : T = (0, 0, 10) := by
        rw [HT.out, HR.out, List.drop_eq_nil_of_le (by omega)]
        rfl
      have HRES := Lib.hid hres
      clear hres HR HT hend
      go_wp2_with fail
      go_ret3
      rw [HRES.out]
      exact ⟨rfl, rfl⟩
    · have ht : ¬ (n : Int) ≤ (a : Int) + k := by omega
      obtain ⟨b, o, rfl, hbl, hc0⟩ := hl.at_ (k := a + k) (by omega)
      have hc : wr.cell? ⟨b, o + (a + k), none⟩ = some (.int .u8 ((atB l (a + k)).toNat : Int)) := hc0
      have hz := u8_lt (atB l (a + k))
      have HD := drop_at l (a + k) (by omega)
      have HR2 : Hid (rdW (l.drop a) 0 0 = if okB k (atB l (a + k)) then (if (atB l (a + k)).toNat < 128 then .ok (acc + (atB l (a + k)).toNat % 128 * 128 ^ k) (l.drop (a + k + 1)) else rdW (l.drop (a + k + 1)) (k + 1) (acc + (atB l (a + k)).toNat % 128 * 128 ^ k)) else .form (l.drop (a + k + 1))) := by
        unfold Hid
        rw [HR.out, HD, rdW]
      have HOK1 := fun h => @okB_u k (atB l (a + k)) h
      have HOK2 := fun h h' => @okB_of k (atB l (a + k)) h h'
      generalize hx : atB l (a + k) = x at hc hz HR2 HOK1 HOK2 hc0
      clear HD HR hx hc0
      by_cases hbad : (k = 9 ∧ 1 < x.toNat) ∨ (0 < k ∧ x.toNat = 0)
      · have hres : T = (0, 0, 12) := by
          rw [HT.out, HR2.out, if_neg (fun hok => by have := HOK1 hok; omega)]
          rfl
        have HRES := Lib.hid hres
        clear hres HR2 HT HOK1 HOK2
        generalize x.toNat = z at hc hz hbad
        by_cases h9 : k = 9
        · by_cases hz1 : 1 < z
          · have t1 : decide ((1 : Int) < z) = true := by simp; omega
            have t0 : ((k : Int) == 9) = true := by simp; omega
            clear hbad h9 hz1
            go_wp2_with fail
            go_ret3
            rw [HRES.out]
            exact ⟨rfl, rfl⟩
          · have t1 : decide ((1 : Int) < z) = false := by simp; omega
            have t2 : ((z : Int) == 0) = true := by simp; omega
            have t3 : 0 < k := by omega
            have t0 : ((k : Int) == 9) = true := by simp; omega
            clear hbad h9 hz1
            go_wp2_with fail
            go_ret3
            rw [HRES.out]
            exact ⟨rfl, rfl⟩
        · have t2 : ((z : Int) == 0) = true := by simp; omega
          have t3 : 0 < k := by omega
          have t0 : ((k : Int) == 9) = false := by simp; omega
          clear hbad h9
          go_wp2_with fail
          go_ret3
          rw [HRES.out]
          exact ⟨rfl, rfl⟩
      · have HR3 : Hid (rdW (l.drop a) 0 0 = if x.toNat < 128 then .ok (acc + x.toNat % 128 * 128 ^ k) (l.drop (a + k + 1)) else rdW (l.drop (a + k + 1)) (k + 1) (acc + x.toNat % 128 * 128 ^ k)) := by
          unfold Hid
          rw [HR2.out, if_pos (HOK2 (fun h => by omega) (fun h => by omega))]
        clear HR2 HOK1 HOK2
        generalize x.toNat = z at hc hz hbad HR3
        clear x
        have hcase : (k = 9 ∧ z = 1) ∨ (k = 0) ∨ (0 < k ∧ k < 9 ∧ 0 < z) := by omega
        have hpos : 0 < 128 ^ k := Nat.pow_pos (by decide)
        have hM : (k = 9 → 128 ^ k = 9223372036854775808) ∧ (k ≤ 8 → 128 ^ k ≤ 72057594037927936) := by
          refine ⟨fun h => by subst h; decide, fun h => ?_⟩
          exact Nat.le_trans (Nat.pow_le_pow_right (by decide) h) (by decide)
        have hM1 : 128 ^ (k + 1) = 128 ^ k * 128 := Nat.pow_succ _ _
        have hmul : z % 128 * 128 ^ k ≤ 127 * 128 ^ k ∧ (z = 1 → z % 128 * 128 ^ k = 128 ^ k) := ⟨Nat.mul_le_mul_right _ (by omega), fun h => by subst h; simp⟩
        have hacc1 : acc + z % 128 * 128 ^ k < 128 ^ (k + 1) := by omega
        have e0 : ((z : Int) % 128 * ((128 ^ k : Nat) : Int)) = ((z % 128 * 128 ^ k : Nat) : Int) := by simp
        have HA : Hid (IntKind.u64.wrap ((acc : Int) + IntKind.u64.wrap ((z : Int) % 128 * 128 ^ k)) = ((acc + z % 128 * 128 ^ k : Nat) : Int)) := by
          unfold Hid
          have i1 : IntKind.u64.wrap ((z % 128 * 128 ^ k : Nat) : Int) = ((z % 128 * 128 ^ k : Nat) : Int) := IntWalk.u64_in _ (by omega)
          have i2 : IntKind.u64.wrap ((acc : Int) + ((z % 128 * 128 ^ k : Nat) : Int)) = (acc : Int) + ((z % 128 * 128 ^ k : Nat) : Int) := IntWalk.u64_in _ (by omega)
          rw [show ((z : Int) % 128 * 128 ^ k) = ((z % 128 * 128 ^ k : Nat) : Int) by simp, i1, i2]
          omega
        have hlt64 : acc + z % 128 * 128 ^ k < 18446744073709551616 := by omega
        have hge : ¬ z < 128 → k ≤ 8 := by omega
        have HM2 : Hid (k ≤ 8 → IntKind.u64.wrap (128 ^ k * 128) = ((128 ^ (k + 1) : Nat) : Int)) := by
          unfold Hid
          intro h
          rw [show ((128 : Int) ^ k * 128) = ((128 ^ k * 128 : Nat) : Int) by simp, hM1, IntWalk.u64_in _ (by omega)]
        clear hM hM1 hmul e0 hpos
        have hfacts : (decide ((1 : Int) < z) = false ∧ ((z : Int) == 0) = false ∧ 0 < k ∧ ((k : Int) == 9) = true) ∨ (¬ 0 < k ∧ ((k : Int) == 9) = false) ∨ (((z : Int) == 0) = false ∧ 0 < k ∧ ((k : Int) == 9) = false) := by
          rcases hcase with ⟨h9, hz⟩ | hk0 | ⟨hk0, h9, hz⟩
          · exact .inl ⟨by simp; omega, by simp; omega, by omega, by simp; omega⟩
          · exact .inr (.inl ⟨by omega, by simp; omega⟩)
          · exact .inr (.inr ⟨by simp; omega, by omega, by simp; omega⟩)
        clear hbad hcase
        rcases hfacts with ⟨t1, t2, t3, t0⟩ | ⟨t3, t0⟩ | ⟨t2, t3, t0⟩
        all_goals
          go_upto_region 12 with fail
          rw [HA.out]
          clear HA
          generalize acc + z % 128 * 128 ^ k = u at hacc1 hlt64 HR3 ⊢
          by_cases hlt : z < 128
          · have hlt' : decide ((z : Int) < 128) = true := by simp; omega
            have HR4 : Hid (T = (unt u, ((a + k + 1 : Nat) : Int), 0)) := by
              unfold Hid
              rw [HT.out, HR3.out, if_pos hlt]
              simp only [tkV, List.length_drop, hln]
              congr 2
              omega
            have HU : Hid (unt u = if u % 2 = 1 then -((u / 2 : Nat) : Int) - 1 else ((u / 2 : Nat) : Int)) := rfl
            clear HR3 HT hlt
            by_cases hodd : u % 2 = 1
            · have ho : ((u : Int) % 2 == 1) = true := by simp; omega
              have HU2 : Hid (T = (-((u / 2 : Nat) : Int) - 1, ((a + k + 1 : Nat) : Int), 0)) := by unfold Hid; rw [HR4.out, HU.out, if_pos hodd]
              clear HR4 HU hodd
              go_wp2_with fail
              go_ret3
              exact ⟨by rw [HU2.out]; simp, rfl⟩
            · have ho : ((u : Int) % 2 == 1) = false := by simp; omega
              have HU2 : Hid (T = (((u / 2 : Nat) : Int), ((a + k + 1 : Nat) : Int), 0)) := by unfold Hid; rw [HR4.out, HU.out, if_neg hodd]
              clear HR4 HU hodd
              go_wp2_with fail
              go_ret3
              exact ⟨by rw [HU2.out]; simp, rfl⟩
          · have hlt' : decide ((z : Int) < 128) = false := by simp; omega
            have HR4 : Hid (rdW (l.drop a) 0 0 = rdW (l.drop (a + (k + 1))) (k + 1) u) := by
              unfold Hid
              rw [HR3.out, if_neg hlt, Nat.add_assoc]
            have hk8 := hge hlt
            have HM3 := Lib.hid (HM2.out hk8)
            clear HR3 hge HM2 hlt
            go_wp2_with fail
            exact ⟨⟨k + 1, u, by omega, by omega, by go_num, rfl, by rw [HM3.out], hacc1, HR4, trivial⟩, by simp [intOf]; omega⟩
end Go.Proofs.YtahjnonkhbpnpaaGreat
/- The document's reader of a configuration: numbers, truths, how many, lists of numbers. -/
namespace Go.Proofs.YtahjnonkhbpnpaaGreat
open Go.RowKit
/-! ### The reader: three cells at block g; it stands at a place of the bytes l. -/
def RfSt (w : World) (g : Nat) (A : Option Addr) (n c : Nat) (l : List UInt8) (s : RS) : Prop :=
  SlB w A n c l ∧ (∀ b o, 0 < n → A = some ⟨b, o, none⟩ → b < g) ∧ n ≤ 1000000 ∧ ∃ a : Nat, Blk w g 105 #[.slice A n c, .int .i64 (a : Int), .int .i64 s.e] ∧ (s.e = 0 → a ≤ n ∧ s.l = l.drop a)
section
variable {w w' : World} {g n c : Nat} {A : Option Addr} {l : List UInt8} {s : RS}
theorem RfSt.lt (h : RfSt w g A n c l s) : g < w.heap.size := by obtain ⟨_, _, _, _, h1, _⟩ := h; exact h1.lt
theorem RfSt.fr {S : Nat → Prop} (h : RfSt w g A n c l s) (hf : Fr S w w') (hS : ∀ k, S k → g < k) : RfSt w' g A n c l s := by
  obtain ⟨h1, h2, h3, a, h4, h5⟩ := h
  exact ⟨h1.fr hf (fun b o hn e hs => by have := h2 b o hn e; have := hS b hs; omega), h2, h3, a, h4.fr hf (fun hs => by have := hS g hs; omega), h5⟩
theorem RfSt.keep (h : RfSt w g A n c l s) (hb : Below w.heap.size w w') : RfSt w' g A n c l s := by
  obtain ⟨h1, h2, h3, a, h4, h5⟩ := h
  exact ⟨h1.keep hb, h2, h3, a, h4.keep hb, h5⟩
theorem RfSt.drewN (h : RfSt w g A n c l s) (k : Nat) : RfSt (w.drewN k) g A n c l s := h
/-- the reader's cells are set. -/
theorem RfSt.set {s' : RS} (h : RfSt w g A n c l s) {a' : Nat} {a0 : Int} (hb : Blk w' g 105 #[.slice A n c, .int .i64 a0, .int .i64 s'.e]) (ha : a0 = a') (hf : Fr (fun k => k = g) w w') (h' : s'.e = 0 → a' ≤ n ∧ s'.l = l.drop a') : RfSt w' g A n c l s' := by
  obtain ⟨h1, h2, h3, a, h4, h5⟩ := h
  subst ha
  exact ⟨h1.fr hf (fun b o hn e hs => by have := h2 b o hn e; omega), h2, h3, a', hb, h'⟩
end
theorem suffix_drop {l r p : List UInt8} {a : Nat} (h : l.drop a = p ++ r) (ha : a ≤ l.length) : r = l.drop (l.length - r.length) := by
  have h1 : l.length - a = p.length + r.length := by rw [← List.length_drop, h, List.length_append]
  have h2 : r = (l.drop a).drop p.length := by rw [h, List.drop_left]
  rw [List.drop_drop] at h2
  conv => lhs; rw [h2]
  congr 1
  omega
def tbR (l : List UInt8) (a : Nat) : Bool × Int × Int := if (gBool ⟨l.drop a, 0⟩).2.e = 0 then ((gBool ⟨l.drop a, 0⟩).1, ((a + 1 : Nat) : Int), 0) else (false, 0, (gBool ⟨l.drop a, 0⟩).2.e)
set_option maxRecDepth 100000 in
theorem takeBoolR_any {w : World} {A : Option Addr} {n c : Nat} {l : List UInt8} (hl : SlB w A n c l) (hn : n ≤ 1000000) {a : Nat} (ha : a ≤ n) :
    Calls Tryz.prog 146 #[.slice A n c, .int .i64 (a : Int)] w fun x w' => x = .returned (.tuple #[.bool (tbR l a).1, .int .i64 (tbR l a).2.1, .int .i64 (tbR l a).2.2]) ∧ w = w' := by
  have hln := hl.2
  by_cases hend : a = n
  · have HT : Hid (tbR l a = (false, 0, 10)) := by
      unfold Hid tbR
      rw [List.drop_eq_nil_of_le (by omega)]
      rfl
    have ht : (n : Int) ≤ (a : Int) := by omega
    clear hend
    go_enter Tryz.func146, Tryz.ntmps146
    go_wp2_with fail
    go_ret3
    rw [HT.out]
    exact ⟨rfl, rfl⟩
  · have ht : ¬ (n : Int) ≤ (a : Int) := by omega
    obtain ⟨b, o, rfl, hbl, hc⟩ := hl.at_ (k := a) (by omega)
    have hz := u8_lt (atB l a)
    have HT : Hid ((1 < (atB l a).toNat → tbR l a = (false, 0, 12)) ∧ (¬ 1 < (atB l a).toNat → tbR l a = (decide ((atB l a).toNat = 1), ((a + 1 : Nat) : Int), 0))) := by
      unfold Hid tbR
      rw [drop_at l a (by omega)]
      unfold gBool
      simp only [ne_eq, not_true_eq_false, if_false]
      refine ⟨fun h => ?_, fun h => ?_⟩
      · rw [if_pos h]; rfl
      · rw [if_neg h]; rfl
    generalize tbR l a = T at HT ⊢
    generalize (atB l a).toNat = z at hc hz HT
    by_cases h1 : 1 < z
    · have HT1 := Lib.hid (HT.out.1 h1)
      have t1 : decide ((1 : Int) < z) = true := by simp; omega
      clear HT h1 hend
      go_enter Tryz.func146, Tryz.ntmps146
      go_wp2_with fail
      go_ret3
      rw [HT1.out]
      exact ⟨rfl, rfl⟩
    · have HT1 := Lib.hid (HT.out.2 h1)
      have t1 : decide ((1 : Int) < z) = false := by simp; omega
      have hd : ((z : Int) == 1) = decide (z = 1) := by
        by_cases h : z = 1
        · subst h; rfl
        · rw [decide_eq_false h]; simp; omega
      clear HT h1 hend
      go_enter Tryz.func146, Tryz.ntmps146
      go_wp2_with (go_quiet (fail))
      go_ret3
      rw [HT1.out]
      exact ⟨by simp, rfl⟩
end Go.Proofs.YtahjnonkhbpnpaaGreat
/- The document's reader of a configuration: its methods int, bool, many, ints. -/
namespace Go.Proofs.YtahjnonkhbpnpaaGreat
open Go.RowKit
theorem gInt_bad {s : RS} (h : (gInt s).2.e ≠ 0) : (gInt s).1 = 0 := by
  unfold gInt at h ⊢
  split
  · rfl
  · rename_i h0
    rw [if_neg h0] at h
    split <;> rename_i hr
    · rw [hr] at h
      exact absurd rfl h
    · rfl
    · rfl
theorem gBool_bad {s : RS} (h : (gBool s).2.e ≠ 0) : (gBool s).1 = false := by
  unfold gBool at h ⊢
  split
  · rfl
  · rename_i h0
    rw [if_neg h0] at h
    split <;> rename_i hr
    · rfl
    · rw [hr] at h
      simp only at h
      split
      · rfl
      · rename_i h1
        rw [if_neg h1] at h
        exact absurd rfl h
set_option maxRecDepth 100000 in
set_option maxHeartbeats 1600000 in
theorem rrInt_any {w : World} {g n c : Nat} {A : Option Addr} {l : List UInt8} {s : RS} (h : RfSt w g A n c l s) :
    Calls Tryz.prog 43 #[.pointer (some ⟨g, 0, none⟩)] w fun x w' => x = .returned (.int .i64 (gInt s).1) ∧ RfSt w' g A n c l (gInt s).2 ∧ Fr (fun k => k = g) w w' := by
  have h' := h
  obtain ⟨h1, h2, h3, a, h4, h5⟩ := h
  have hln := h1.2
  have c0 : w.cell? ⟨g, 0, none⟩ = some (.slice A n c) := h4.cell 0
  have c1 : w.cell? ⟨g, 1, none⟩ = some (.int .i64 (a : Int)) := h4.cell 1
  have c2 : w.cell? ⟨g, 2, none⟩ = some (.int .i64 s.e) := h4.cell 2
  have fz : ∀ i, w.frozen? ⟨g, i, none⟩ = false := h4.frozen
  have hgl := h4.lt
  by_cases h0 : s.e = 0
  · have t0 : (s.e != 0) = false := by simpa using h0
    obtain ⟨ha, hl⟩ := h5 h0
    have HT := Lib.hid (tkR_gInt l a)
    have hs : s = ⟨l.drop a, 0⟩ := by obtain ⟨sl, se⟩ := s; simp only at h0 hl; rw [h0, hl]
    rw [← hs] at HT
    have HI := Lib.hid (fun h => (gInt_inv (s := s) h).2)
    have HB := Lib.hid (fun h => gInt_bad (s := s) h)
    clear hs
    generalize gInt s = R at HT HI HB ⊢
    obtain ⟨rv, rs⟩ := R
    simp only at HT HI HB ⊢
    have hcase : ∃ a2 : Nat, tkR l a = (rv, (a2 : Int), rs.e) ∧ (rs.e = 0 → a2 ≤ n ∧ rs.l = l.drop a2) := by
      by_cases hok : rs.e = 0
      · exact ⟨l.length - rs.l.length, by rw [HT.out, if_pos hok, hok], fun _ => ⟨by omega, suffix_drop (p := vint rv) (by rw [← hl]; exact HI.out hok) (by omega)⟩⟩
      · exact ⟨0, by rw [HT.out, if_neg hok, HB.out hok]; rfl, fun h => absurd h hok⟩
    obtain ⟨a2, HT2, hfin⟩ := hcase
    have HF := Lib.hid hfin
    have HC : ∀ m, Calls Tryz.prog 106 #[.slice A n c, .int .i64 (a : Int)] (w.drewN m) fun x w' => x = .returned (.tuple #[.int .i64 rv, .int .i64 (a2 : Int), .int .i64 rs.e]) ∧ w' = w.drewN m := fun m => by
      have := takeIntR_any (w := w.drewN m) h1 h3 ha
      rw [HT2] at this
      exact this.mono fun _ _ h => ⟨h.1, h.2.symm⟩
    clear HT HI HB HT2 hfin
    go_enter Tryz.func43, Tryz.ntmps43
    go_wp2_with fail
    go_quiet ((go_at_call 106; exact Calls.quiet_of_same (HC _)))
    go_wp2_with fail
    go_ret
    have hb2 : Blk (((w.drewN nq).setCell ⟨g, 2, none⟩ (.int .i64 rs.e)).setCell ⟨g, 1, none⟩ (.int .i64 (a2 : Int))) g 105 #[.slice A n c, .int .i64 (a2 : Int), .int .i64 rs.e] := ((Blk.drewN h4 nq).set_ 2 _).set_ 1 _
    have hf2 : Fr (fun k => k = g) w (((w.drewN nq).setCell ⟨g, 2, none⟩ (.int .i64 rs.e)).setCell ⟨g, 1, none⟩ (.int .i64 (a2 : Int))) := (((Fr.refl (fun k => k = g) w).drewN nq).setCell (p := ⟨g, 2, none⟩) (fun _ => rfl) _).setCell (p := ⟨g, 1, none⟩) (fun _ => rfl) _
    exact ⟨rfl, h'.set hb2 rfl hf2 HF.out, hf2⟩
  · have t0 : (s.e != 0) = true := by simpa using h0
    have HG : Hid (gInt s = (0, s)) := by unfold Hid gInt; rw [if_pos h0]
    clear h5 h0
    go_enter Tryz.func43, Tryz.ntmps43
    go_wp2_with fail
    go_ret
    rw [HG.out]
    exact ⟨rfl, h', Fr.refl _ _⟩
set_option maxRecDepth 100000 in
set_option maxHeartbeats 1600000 in
theorem rrBool_any {w : World} {g n c : Nat} {A : Option Addr} {l : List UInt8} {s : RS} (h : RfSt w g A n c l s) :
    Calls Tryz.prog 105 #[.pointer (some ⟨g, 0, none⟩)] w fun x w' => x = .returned (.bool (gBool s).1) ∧ RfSt w' g A n c l (gBool s).2 ∧ Fr (fun k => k = g) w w' := by
  have h' := h
  obtain ⟨h1, h2, h3, a, h4, h5⟩ := h
  have hln := h1.2
  have c0 : w.cell? ⟨g, 0, none⟩ = some (.slice A n c) := h4.cell 0
  have c1 : w.cell? ⟨g, 1, none⟩ = some (.int .i64 (a : Int)) := h4.cell 1
  have c2 : w.cell? ⟨g, 2, none⟩ = some (.int .i64 s.e) := h4.cell 2
  have fz : ∀ i, w.frozen? ⟨g, i, none⟩ = false := h4.frozen
  have hgl := h4.lt
  by_cases h0 : s.e = 0
  · have t0 : (s.e != 0) = false := by simpa using h0
    obtain ⟨ha, hl⟩ := h5 h0
    have HT : Hid (tbR l a = if (gBool ⟨l.drop a, 0⟩).2.e = 0 then ((gBool ⟨l.drop a, 0⟩).1, ((a + 1 : Nat) : Int), 0) else (false, 0, (gBool ⟨l.drop a, 0⟩).2.e)) := rfl
    have hs : s = ⟨l.drop a, 0⟩ := by obtain ⟨sl, se⟩ := s; simp only at h0 hl; rw [h0, hl]
    rw [← hs] at HT
    have HI := Lib.hid (fun h => (gBool_inv (s := s) h).2)
    have HB := Lib.hid (fun h => gBool_bad (s := s) h)
    clear hs
    generalize gBool s = R at HT HI HB ⊢
    obtain ⟨rv, rs⟩ := R
    simp only at HT HI HB ⊢
    have hcase : ∃ a2 : Nat, tbR l a = (rv, (a2 : Int), rs.e) ∧ (rs.e = 0 → a2 ≤ n ∧ rs.l = l.drop a2) := by
      by_cases hok : rs.e = 0
      · refine ⟨a + 1, by rw [HT.out, if_pos hok, hok], fun _ => ?_⟩
        have e := HI.out hok
        rw [hl] at e
        have hlen : (l.drop a).length = 1 + rs.l.length := by rw [e, List.length_append]; rfl
        rw [List.length_drop] at hlen
        have hsd := suffix_drop e (by omega)
        refine ⟨by omega, ?_⟩
        rw [show a + 1 = l.length - rs.l.length by omega]
        exact hsd
      · exact ⟨0, by rw [HT.out, if_neg hok, HB.out hok]; rfl, fun h => absurd h hok⟩
    obtain ⟨a2, HT2, hfin⟩ := hcase
    have HF := Lib.hid hfin
    have HC : ∀ m, Calls Tryz.prog 146 #[.slice A n c, .int .i64 (a : Int)] (w.drewN m) fun x w' => x = .returned (.tuple #[.bool rv, .int .i64 (a2 : Int), .int .i64 rs.e]) ∧ w' = w.drewN m := fun m => by
      have := takeBoolR_any (w := w.drewN m) h1 h3 ha
      rw [HT2] at this
      exact this.mono fun _ _ h => ⟨h.1, h.2.symm⟩
    clear HT HI HB HT2 hfin
    go_enter Tryz.func105, Tryz.ntmps105
    go_wp2_with fail
    go_quiet ((go_at_call 146; exact Calls.quiet_of_same (HC _)))
    go_wp2_with fail
    go_ret
    have hb2 : Blk (((w.drewN nq).setCell ⟨g, 2, none⟩ (.int .i64 rs.e)).setCell ⟨g, 1, none⟩ (.int .i64 (a2 : Int))) g 105 #[.slice A n c, .int .i64 (a2 : Int), .int .i64 rs.e] := ((Blk.drewN h4 nq).set_ 2 _).set_ 1 _
    have hf2 : Fr (fun k => k = g) w (((w.drewN nq).setCell ⟨g, 2, none⟩ (.int .i64 rs.e)).setCell ⟨g, 1, none⟩ (.int .i64 (a2 : Int))) := (((Fr.refl (fun k => k = g) w).drewN nq).setCell (p := ⟨g, 2, none⟩) (fun _ => rfl) _).setCell (p := ⟨g, 1, none⟩) (fun _ => rfl) _
    exact ⟨rfl, h'.set hb2 rfl hf2 HF.out, hf2⟩
  · have t0 : (s.e != 0) = true := by simpa using h0
    have HG : Hid (gBool s = (false, s)) := by unfold Hid gBool; rw [if_pos h0]
    clear h5 h0
    go_enter Tryz.func105, Tryz.ntmps105
    go_wp2_with fail
    go_ret
    rw [HG.out]
    exact ⟨rfl, h', Fr.refl _ _⟩
/-- how many the document tells -/
def manyV (s : RS) : Int := if (kHead s).e = 0 then (gInt s).1 else 0
theorem manyV_rng (s : RS) : 0 ≤ manyV s ∧ manyV s ≤ 64 := by
  unfold manyV
  split
  · rename_i h
    unfold kHead at h
    split at h
    · rename_i hb
      exfalso
      unfold errS at h
      simp only at h
      split at h
      · cases h
      · rename_i h2
        exact h2 h
    · omega
  · omega
/-- the loops of the document's reader, and those of the program's, come to the same. -/
theorem kL_many (f : RS → RS) (s : RS) : kL f s = kRep f (manyV s).toNat (kHead s) := by
  unfold kL manyV
  split
  · rfl
  · rename_i h
    rw [kRep_err h, kRep_err h]
set_option maxRecDepth 100000 in
set_option maxHeartbeats 1600000 in
theorem rrMany_any {w : World} {g n c : Nat} {A : Option Addr} {l : List UInt8} {s : RS} (h : RfSt w g A n c l s) :
    Calls Tryz.prog 41 #[.pointer (some ⟨g, 0, none⟩)] w fun x w' => x = .returned (.int .i64 (manyV s)) ∧ RfSt w' g A n c l (kHead s) ∧ Fr (fun k => k = g) w w' := by
  have HM : Hid (manyV s = if (kHead s).e = 0 then (gInt s).1 else 0) := rfl
  have HH : Hid (kHead s = if (gInt s).1 < 0 ∨ 64 < (gInt s).1 then errS (gInt s).2 3 else (gInt s).2) := rfl
  have hrg := gInt_rng s
  go_enter Tryz.func41, Tryz.ntmps41
  go_wp2_with fail
  refine (rrInt_any h).mono ?_
  rintro e w2 ⟨rfl, hr2, hf2⟩
  generalize (gInt s).1 = v at HM HH hrg ⊢
  generalize (gInt s).2 = s1 at hr2 HH
  have hr2' := hr2
  obtain ⟨h1, h2, h3, a, h4, h5⟩ := hr2
  have c2 : w2.cell? ⟨g, 2, none⟩ = some (.int .i64 s1.e) := h4.cell 2
  have fz : ∀ i, w2.frozen? ⟨g, i, none⟩ = false := h4.frozen
  have hgl := h4.lt
  by_cases h0 : s1.e = 0
  · have t0 : (s1.e == 0) = true := by simpa using h0
    have t1 : (s1.e != 0) = false := by simpa using h0
    by_cases hb : v < 0 ∨ 64 < v
    · have HS : Hid (kHead s = ⟨s1.l, 3⟩) := by unfold Hid; rw [HH.out, if_pos hb]; unfold errS; rw [if_pos h0]
      have HV : Hid (manyV s = 0) := by unfold Hid; rw [HM.out, HS.out]; rfl
      clear HM HH h0 h5
      have hb2 : Blk (w2.setCell ⟨g, 2, none⟩ (.int .i64 3)) g 105 #[.slice A n c, .int .i64 (a : Int), .int .i64 3] := h4.set_ 2 _
      have hf3 : Fr (fun k => k = g) w2 (w2.setCell ⟨g, 2, none⟩ (.int .i64 3)) := (Fr.refl (fun k => k = g) w2).setCell (p := ⟨g, 2, none⟩) (fun _ => rfl) _
      by_cases hv : v < 0
      · clear hb
        go_wp2_with fail
        go_ret
        rw [HS.out, HV.out]
        exact ⟨rfl, RfSt.set (s' := ⟨s1.l, 3⟩) hr2' hb2 rfl hf3 (fun h => by cases h), hf2.trans hf3⟩
      · have hv2 : 64 < v := by omega
        have t2 : decide (v < 0) = false := by simpa using hv
        clear hb
        go_wp2_with fail
        go_ret
        rw [HS.out, HV.out]
        exact ⟨rfl, RfSt.set (s' := ⟨s1.l, 3⟩) hr2' hb2 rfl hf3 (fun h => by cases h), hf2.trans hf3⟩
    · have HS : Hid (kHead s = s1) := by unfold Hid; rw [HH.out, if_neg hb]
      have HV : Hid (manyV s = v) := by unfold Hid; rw [HM.out, HS.out, if_pos h0]
      have t2 : decide (v < 0) = false := by simp; omega
      have t3 : decide (64 < v) = false := by simp; omega
      clear HM HH h0 h5 hb
      go_wp2_with fail
      go_ret
      rw [HS.out, HV.out]
      exact ⟨rfl, hr2', hf2⟩
  · have t0 : (s1.e == 0) = false := by simpa using h0
    have t1 : (s1.e != 0) = true := by simpa using h0
    have HS : Hid (kHead s = s1) := by
      unfold Hid
      rw [HH.out]
      unfold errS
      rw [if_neg h0]
      simp
    have HV : Hid (manyV s = 0) := by unfold Hid; rw [HM.out, HS.out, if_neg h0]
    clear HM HH h0 h5
    go_wp2_with fail
    go_ret
    rw [HS.out, HV.out]
    exact ⟨rfl, hr2', hf2⟩
set_option maxRecDepth 100000 in
set_option maxHeartbeats 3200000 in
theorem rrInts_any {w : World} {g n c : Nat} {A : Option Addr} {l : List UInt8} {s : RS} (h : RfSt w g A n c l s) :
    Calls Tryz.prog 46 #[.pointer (some ⟨g, 0, none⟩)] w fun x w' => ∃ y : Hd Int, x = .returned y.v ∧ y.okI w' ∧ (∀ b, ftInts.blk y b → w.heap.size ≤ b) ∧ RfSt w' g A n c l (kL kI s) ∧ Fr (fun k => k = g) w w' ∧ Hid ((kL kI s).e = 0 → s.l = lst vint y.l ++ (kL kI s).l ∧ badL noB y.l = false) := by
  obtain ⟨i0, hi0, hz0, hz1, hz2⟩ := info_parts IntG_info
  have hgl := h.lt
  have HL := Lib.hid (kL_many kI s)
  have hmr := manyV_rng s
  have HV : Hid ((kHead s).e = 0 → s.l = vint (manyV s) ++ (kHead s).l) := by
    intro he
    have hm : manyV s = (gInt s).1 := by unfold manyV; rw [if_pos he]
    rw [hm]
    unfold kHead at he ⊢
    split at he
    · rename_i hb
      exfalso
      unfold errS at he
      simp only at he
      split at he
      · cases he
      · rename_i h2; exact h2 he
    · rename_i hb
      rw [if_neg hb]
      exact (gInt_inv he).2
  go_enter Tryz.func46, Tryz.ntmps46
  go_wp2_with fail
  refine (rrMany_any h).mono ?_
  rintro e w2 ⟨rfl, hr2, hf2⟩
  obtain ⟨N, hN⟩ := Int.eq_ofNat_of_zero_le hmr.1
  rw [hN] at hmr HL HV ⊢
  rw [Int.toNat_natCast] at HL
  clear hN
  generalize kHead s = s2 at hr2 HL HV
  go_wp2_with fail
  go_loopw [3, 5, 6] (fun v0 i _ wr => ∃ (v : Value) (k : Nat) (dn : List Int) (sc : RS), v = v0 ∧ k ≤ N ∧ i = .int .i64 k ∧ dn.length = k ∧ wr.ownsRow w.heap.size 3 1 v k (dn.map (Value.int .i64)) ∧ (∀ x ∈ dn, i64 x) ∧ RfSt wr g A n c l sc ∧ Fr (fun k => k = g) w wr ∧ Hid (kRep kI N s2 = kRep kI (N - k) sc) ∧ Hid (sc.e = 0 → s2.e = 0 ∧ s2.l = dn.flatMap vint ++ sc.l)) (fun _ i _ _ => N - (intOf i).toNat)
  case atStart => exact ⟨_, 0, [], s2, rfl, by omega, rfl, rfl, World.ownsRow_nil _ _ _ _, (fun x h => by cases h), hr2, hf2, by unfold Hid; simp, fun h => ⟨h, rfl⟩⟩
  case round =>
    obtain ⟨v, k, dn, sc, rfl, hk, rfl, hdl, hown, hrg, hr, hfw, HG, HC⟩ := hrel
    have hsz := hfw.size
    by_cases hlt : k < N
    · have HM : Hid (kRep kI N s2 = kRep kI (N - (k + 1)) (gInt sc).2) := by
        unfold Hid
        rw [HG.out, show N - k = (N - (k + 1)) + 1 by omega]
        by_cases he : sc.e = 0
        · exact kRep_more he
        · rw [kRep_err he]
          have : (gInt sc).2 = sc := by unfold gInt; rw [if_pos he]
          rw [this, kRep_err he]
      have hI := gInt_rng sc
      have HI := Lib.hid (gInt_inv (s := sc))
      clear HG
      go_wp2_with fail
      refine (rrInt_any hr).mono ?_
      rintro e w3 ⟨rfl, hr3, hf3⟩
      generalize (gInt sc).1 = y at hI HI ⊢
      generalize (gInt sc).2 = s3 at hr3 HI HM
      have hownA := own_far hown hf3 (fun k hk => by omega)
      have hz3 := hf3.size
      go_wp2_with (at_builtin; refine wpList_app1 w3 (by rfl) _ _ 29 (by rfl) w.heap.size 3 i0 _ 1 8 (by kernel_rfl) hi0 hz0 hz1 hz2 rfl (by decide) (by decide) _ k _ (by rfl) hownA #[.int .i64 y] rfl (by simp [Value.oneCell']) (by rfl) (by omega) (by omega) ?_; intro v' w4 hown4 hf4 hat4)
      have hr4 := hr3.fr hf4 (fun k hk => Nat.lt_of_lt_of_le hgl (hownA.lt k hk).1)
      have HC4 : Hid (s3.e = 0 → s2.e = 0 ∧ s2.l = (dn ++ [y]).flatMap vint ++ s3.l) := fun he => by
        obtain ⟨a1, a2⟩ := HI.out he
        obtain ⟨b1, b2⟩ := HC.out a1
        refine ⟨b1, ?_⟩
        rw [b2, a2, List.flatMap_append, List.append_assoc]
        simp
      exact ⟨⟨_, k + 1, dn ++ [y], s3, rfl, by omega, by go_num, by simp [hdl], by rw [List.map_append]; exact hown4, (fun x hx => by
        rcases List.mem_append.1 hx with hx | hx
        · exact hrg x hx
        · obtain rfl := List.mem_singleton.1 hx; exact hI), hr4, (hfw.trans hf3).trans' (hf4.mono (S' := fun k => w.heap.size ≤ k) (fun k _ hk => (hownA.lt k hk).1)) (fun k hk h => by omega), HM, HC4⟩, by simp [intOf]; omega⟩
    · obtain rfl : k = N := by omega
      have HFIN : Hid (kL kI s = sc) := by unfold Hid; rw [HL.out, HG.out, Nat.sub_self]; rfl
      have HE : Hid (sc.e = 0 → s.l = lst vint dn ++ sc.l ∧ badL noB dn = false) := fun he => by
        obtain ⟨b1, b2⟩ := HC.out he
        refine ⟨?_, ?_⟩
        · rw [HV.out b1, b2, ← hdl]
          unfold lst
          rw [List.append_assoc]
        · unfold badL
          rw [show dn.any noB = false by induction dn with | nil => rfl | cons _ _ _ => simp [noB], hdl]
          simp
          omega
      obtain ⟨A9, c9, hv9, hs9, hb9⟩ := Sl.of_own hown
      clear HG HC HV HL
      go_wp2_with fail
      go_ret
      rw [HFIN.out]
      refine ⟨⟨A9, c9, dn⟩, by show Ending.returned v = .returned (.slice A9 dn.length c9); rw [hv9, hdl], ⟨by rw [hdl]; exact hs9, rfl, hrg⟩, fun b hb => ?_, hr, hfw, HE⟩
      obtain ⟨_, o, e⟩ := hb
      exact hb9 b o e
end Go.Proofs.YtahjnonkhbpnpaaGreat
/- The document's reader of a configuration: mode. Printed by wip/gen_rr.py. -/
namespace Go.Proofs.YtahjnonkhbpnpaaGreat
open Go.RowKit
theorem kHead_v {s : RS} : (kHead s).e = 0 → s.l = vint (manyV s) ++ (kHead s).l := by
  intro he
  have hm : manyV s = (gInt s).1 := by unfold manyV; rw [if_pos he]
  rw [hm]
  unfold kHead at he ⊢
  split at he
  · rename_i hb
    exfalso
    unfold errS at he
    simp only at he
    split at he
    · cases he
    · rename_i h2; exact h2 he
  · rename_i hb
    rw [if_neg hb]
    exact (gInt_inv he).2

set_option maxRecDepth 100000 in
set_option maxHeartbeats 12800000 in
theorem rr_Md {w : World} {g n c : Nat} {A : Option Addr} {l : List UInt8} {s : RS} (h : RfSt w g A n c l s) : Calls Tryz.prog 44 #[.pointer (some ⟨g, 0, none⟩)] w fun e w' =>
    ∃ x : Md, e = .returned x.v ∧ rdMd.ok w' x ∧ (∀ b, ftMd.blk x b → w.heap.size ≤ b) ∧ RfSt w' g A n c l (kMd s) ∧ Fr (fun q => q = g) w w' ∧ Hid ((kMd s).e = 0 → s.l = encMd x ++ (kMd s).l ∧ badMd x = false) := by
  have hgl := h.lt
  have hb0 := (Below.refl w.heap.size w).alloc (Nat.le_refl _) (.cells #[.int .i64 0, .slice none 0 0] 58)
  have brw0 := Blk.new w 58 #[.int .i64 0, .slice none 0 0]
  have hrw0 := h.keep hb0
  have HS : Hid (kMd s = kL k3 (gInt s).2) := rfl
  go_enter Tryz.func44, Tryz.ntmps44
  go_upto_region 1 with fail
  generalize w.alloc (.cells #[.int .i64 0, .slice none 0 0] 58) = w0 at hb0 brw0 hrw0 ⊢
  obtain ⟨gr, hgw⟩ : ∃ gr, gr = w.heap.size := ⟨_, rfl⟩
  rw [← hgw] at brw0 ⊢
  have hrg : ¬ gr = g := by omega
  have hle : w.heap.size ≤ gr := Nat.le_of_eq hgw.symm
  have hl0 := brw0.lt
  clear hgw
  go_wp2_with fail
  refine (rrInt_any hrw0).mono ?_
  rintro e w1 ⟨rfl, hrw1, hf⟩
  have o1 := gInt_rng s
  have v1 := Lib.hid (gInt_inv (s := s))
  generalize (gInt s).1 = n1 at o1 v1 ⊢
  generalize (gInt s).2 = s1 at hrw1 HS v1
  have hbp := (Below.refl w1.heap.size w1).alloc (Nat.le_refl _) (.cells #[.int .i64 n1, .slice none 0 0] 58)
  have bpw2 := Blk.new w1 58 #[.int .i64 n1, .slice none 0 0]
  have hrw2 := hrw1.keep hbp
  have brw1 := brw0.fr hf hrg
  have brw2 := brw1.keep hbp
  have hl1 := brw1.lt
  go_upto_region 2 with fail
  generalize w1.alloc (.cells #[.int .i64 n1, .slice none 0 0] 58) = w2 at hbp bpw2 hrw2 brw2 ⊢
  obtain ⟨gp, hgp⟩ : ∃ gp, gp = w1.heap.size := ⟨_, rfl⟩
  rw [← hgp] at bpw2 ⊢
  have hz1 := hf.size
  have hpg : ¬ gp = g := by omega
  have hrp : ¬ gr = gp := by omega
  have hgg : g < gp := by omega
  have hlr : gr < gp := by omega
  have hpl : w0.heap.size ≤ gp := by omega
  have Fw2 : Fr (fun q => q = g ∨ q = gp) w0 w2 := (hf.mono (fun q _ e => .inl e)).trans (Fr.of_below hbp _)
  clear hgp hrw0 brw0 hbp hrw1 brw1 hf hl1
  go_wp2_with fail
  have V2 := Lib.hid (kHead_v (s := s1))
  have M2 := manyV_rng s1
  have K2 := Lib.hid (kL_many k3 s1)
  have u2 := Lib.hid (kL_stick (f := k3) (s := s1))
  refine (rrMany_any hrw2).mono ?_
  rintro e w3 ⟨rfl, hrw3, hf⟩
  obtain ⟨N2, hN⟩ := Int.eq_ofNat_of_zero_le M2.1
  rw [hN] at M2 K2 V2 ⊢
  rw [Int.toNat_natCast] at K2
  clear hN
  generalize kHead s1 = t2 at hrw3 K2 V2
  generalize hKL : kL k3 s1 = z2 at HS K2 u2
  clear hKL
  have hc : Fr (fun q => q = g ∨ q = gp) w2 w3 := hf.mono (fun q _ e => .inl e)
  have bpw3 := bpw2.fr hf hpg
  have lpsw3 := bpw3.lt
  have brw3 := brw2.fr hc (fun h => h.elim hrg hrp)
  have Fw3 := Fw2.trans hc
  clear brw2 Fw2
  clear hf hc hrw2 bpw2
  go_wp2_with fail
  go_loopw [5, 6, 7] (fun ic _ _ wr => ∃ (v : Value) (k : Nat) (dn : List Wn) (sc : RS), k ≤ N2 ∧ ic = .int .i64 k ∧ dn.length = k ∧ wr.ownsRow w3.heap.size 85 3 v k (dn.flatMap rdWn.f) ∧ (∀ x ∈ dn, rdWn.ok wr x) ∧ (∀ x ∈ dn, ∀ b, ftWn.blk x b → w3.heap.size ≤ b ∧ v.ownBlock ≠ some b) ∧ RfSt wr g A n c l sc ∧ Blk wr gp 58 #[.int .i64 n1, v] ∧ Fr (fun q => q = g ∨ q = gp) w3 wr ∧ Hid (kRep k3 N2 t2 = kRep k3 (N2 - k) sc) ∧ Hid (sc.e = 0 → t2.e = 0 ∧ t2.l = dn.flatMap encWn ++ sc.l ∧ dn.any noB = false)) (fun ic _ _ _ => N2 - (intOf ic).toNat)
  case atStart => exact ⟨_, 0, [], t2, Nat.zero_le _, rfl, rfl, World.ownsRow_nil _ _ _ _, (fun x h => by cases h), (fun x h => by cases h), hrw3, bpw3, Fr.refl _ _, by unfold Hid; simp, fun h => ⟨h, rfl, rfl⟩⟩
  case round =>
    obtain ⟨v, k, dn, s2, hk, rfl, hdl, hown, hok, hbl, hr, bp, hfw, HG, HC⟩ := hrel
    obtain ⟨w4, hwo⟩ : ∃ w : World, w = wr := ⟨_, rfl⟩
    subst hwo
    have hsz := hfw.size
    have hgw := hr.lt
    have d2 : w4.cell? ⟨g, 2, none⟩ = some (.int .i64 s2.e) := by
      obtain ⟨_, _, _, ra, rb, _⟩ := hr
      exact rb.cell 2
    go_upto_region 4 with fail
    go_cut [22] from 13 to 38 (fun c wx => c = .bool (decide (k < N2 ∧ s2.e = 0)) ∧ w4 = wx)
    case first =>
      by_cases hlt : k < N2
      · by_cases he : s2.e = 0
        · have he' : (s2.e == 0) = true := by simpa using he
          go_wp2_with fail
          go_meet
          exact ⟨by rw [decide_eq_true ⟨hlt, he⟩], rfl⟩
        · have he' : (s2.e == 0) = false := by simpa using he
          go_wp2_with fail
          go_meet
          exact ⟨by rw [decide_eq_false (fun h => he h.2)], rfl⟩
      · go_wp2_with fail
        go_meet
        exact ⟨by rw [decide_eq_false (fun h => hlt h.1)], rfl⟩
    case rest =>
      obtain ⟨rfl, hwc⟩ := hcut
      subst hwc
      by_cases hlt : k < N2 ∧ s2.e = 0
      · have _d := True.intro
        have hd : decide (k < N2 ∧ s2.e = 0) = true := decide_eq_true hlt
        obtain ⟨hlt, he⟩ := hlt
        rw [hd]
        clear hd d2
        have HM : Hid (kRep k3 N2 t2 = kRep k3 (N2 - (k + 1)) (k3 s2)) := by
          unfold Hid
          rw [HG.out, show N2 - k = (N2 - (k + 1)) + 1 by omega, kRep_more he]
        have HC2 := Lib.hid (HC.out he)
        clear HG HC he
        have HK : Hid (k3 s2 = (gInt (gInt (gInt s2).2).2).2) := rfl
        go_wp2_with fail
        refine (rrInt_any hr).mono ?_
        rintro e w5 ⟨rfl, hrw5, hfw5⟩
        have j0 := gInt_rng s2
        have x0 := Lib.hid (gInt_inv (s := s2))
        generalize (gInt s2).1 = y0 at x0 j0 ⊢
        generalize (gInt s2).2 = s2x0 at hrw5 HK x0
        have hfa := hfw5
        go_wp2_with fail
        refine (rrInt_any hrw5).mono ?_
        rintro e w6 ⟨rfl, hrw6, hfw6⟩
        have j1 := gInt_rng s2x0
        have x1 := Lib.hid (gInt_inv (s := s2x0))
        generalize (gInt s2x0).1 = y1 at x1 j1 ⊢
        generalize (gInt s2x0).2 = s2x1 at hrw6 HK x1
        replace hfa := hfa.trans hfw6
        go_wp2_with fail
        have hvp : ¬ v.ownBlock = some gp := fun e => by have := (hown.lt gp e).1; omega
        have hvg : ¬ v.ownBlock = some g := fun e => by have := (hown.lt g e).1; omega
        have bpa := bp.fr hfa hpg
        have pf : w6.cell? ⟨gp, 1, none⟩ = some v := bpa.cell 1
        have lpa := bpa.lt
        have hSp : ¬ (gp = g ∨ v.ownBlock = some gp) := fun h => h.elim hpg hvp
        refine wp_region_fen (fun j => j = g ∨ v.ownBlock = some j) [(5, 0), (1, 0), (0, 0), (1, 2)] (by kernel_rfl) (by kernel_rfl) ?_
        simp only [wpSegsF, List.take, List.drop]
        repeat (go_big_quiet_step (fail))
        refine wpQuiet_nil (wpHeadF_want rfl (fun K' hK' => ?_))
        go_wp2_with fail
        refine (rrInt_any (w := w6.drew) hrw6).mono ?_
        rintro e w7 ⟨rfl, hrw7, hfw7⟩
        have j2 := gInt_rng s2x1
        have x2 := Lib.hid (gInt_inv (s := s2x1))
        generalize (gInt s2x1).1 = y2 at x2 j2 ⊢
        generalize (gInt s2x1).2 = s2x2 at hrw7 HK x2
        replace hfw7 : Fr (fun q => q = g) w6 w7 := (Fr.drew (Fr.refl _ w6)).trans hfw7
        replace hfa := hfa.trans hfw7
        refine hK' _ _ rfl (fr_graft (hfw7.mono (fun q _ e => .inl e))) ?_
        clear hK' K'
        try simp only [List.take, List.drop]
        repeat (go_big_quiet_step (fail))
        refine wpQuiet_nil (wpHeadF_want rfl (fun K' hK' => ?_))
        go_wp2_with fail
        refine hK' _ _ rfl (fr_graft ((hfw7.mono (S' := fun q => q = g ∨ v.ownBlock = some q) (fun q _ e => .inl e)).alloc _)) ?_
        clear hK' K'
        try simp only [List.take, List.drop]
        repeat (go_big_quiet_step (fail))
        refine wpQuiet_nil (wpHeadF_want rfl (fun K' hK' => ?_))
        have hownB := own_far hown hfa (fun q e => by omega)
        have hzB := hfa.size
        obtain ⟨i0, hi0, hz0, hz1, hz2⟩ := info_parts WnG_info
        refine wp_app_blk _ _ _ 56 (by rfl) w3.heap.size 85 i0 _ 3 24 (by kernel_rfl) hi0 hz0 hz1 hz2 rfl (by decide) (by decide) v k _ (by rfl) (hownB.alloc _) w7.heap.size #[.int .i64 y0, .int .i64 y1, .int .i64 y2] rfl (by simp [Value.oneCell']) (Blk.new _ _ _) (by rfl) (by omega) (by have := World.size_alloc w7 (.cells #[.int .i64 y0, .int .i64 y1, .int .i64 y2] 85); omega) ?_
        intro gg cap w8 hownC hfC hatC
        replace hfC : Fr (fun q => v.ownBlock = some q) w7 w8 := ((Fr.refl _ w7).alloc _).trans hfC
        rw [World.size_alloc] at hatC
        refine hK' _ _ rfl (fr_graft ((hfw7.mono (S' := fun q => q = g ∨ v.ownBlock = some q) (fun q _ e => .inl e)).trans (hfC.mono (fun q _ e => .inr e)))) ?_
        clear hK' K'
        try simp only [List.take, List.drop]
        simp only [Act.put, List.setIfInBounds_toArray, List.set_cons_succ, List.set_cons_zero]
        repeat (go_big_quiet_step (fail))
        have bpd := (bp.fr hfa hpg).fr hfC hvp
        have pd : w8.cell? ⟨gp, 1, none⟩ = some v := bpd.cell 1
        have fzd : ∀ i, w8.frozen? ⟨gp, i, none⟩ = false := bpd.frozen
        have lpd := bpd.lt
        refine wpQuiet_nil (wpHeadF_bar rfl (fun K' hK' => ?_))
        go_wp2_with fail
        refine hK' _ _ (fun _ => False) rfl ?_
        clear hK' K'
        try simp only [wpSegsF]
        repeat (go_big_quiet_step (fail))
        refine wpQuiet_nil ?_
        have bpe : Blk (w8.setCell ⟨gp, 1, none⟩ (.slice (some ⟨gg, 0, none⟩) (k + 1) cap)) gp 58 #[.int .i64 n1, .slice (some ⟨gg, 0, none⟩) (k + 1) cap] := bpd.set_ 1 _
        have hse : Fr (fun q => q = gp) w8 (w8.setCell ⟨gp, 1, none⟩ (.slice (some ⟨gg, 0, none⟩) (k + 1) cap)) := (Fr.refl (fun q => q = gp) w8).setCell (p := ⟨gp, 1, none⟩) (fun _ => rfl) _
        have hre := (hrw7.fr hfC (fun q e => by have := (hownB.lt q e).1; omega)).fr hse (fun q e => by omega)
        have hgge : w3.heap.size ≤ gg := (hownC.lt gg rfl).1
        have howne := own_fr hownC hse (fun q _ e h => by cases e; omega)
        generalize w8.setCell ⟨gp, 1, none⟩ (.slice (some ⟨gg, 0, none⟩) (k + 1) cap) = w9 at bpe hse hre howne ⊢
        have hfe : Fr (fun q => q = g ∨ q = gp) w3 w9 := ((hfw.trans (hfa.mono (fun q _ e => .inl e))).trans' (hfC.mono (S' := fun q => v.ownBlock = some q) (fun q _ e => e)) (fun q hq e => by have := (hownB.lt q e).1; omega)).trans (hse.mono (fun q _ e => .inr e))
        have HC4 : Hid (s2x2.e = 0 → t2.e = 0 ∧ t2.l = (dn ++ [(⟨y0, y1, y2⟩ : Wn)]).flatMap encWn ++ s2x2.l ∧ (dn ++ [(⟨y0, y1, y2⟩ : Wn)]).any noB = false) := fun he => by
          obtain ⟨a2, l2⟩ := x2.out he
          obtain ⟨a1, l1⟩ := x1.out a2
          obtain ⟨a0, l0⟩ := x0.out a1
          obtain ⟨c0, c1, c2⟩ := HC2.out
          refine ⟨c0, ?_, ?_⟩
          · rw [c1, List.flatMap_append, l0, l1, l2]
            simp only [List.flatMap_cons, List.flatMap_nil, List.append_nil, List.append_assoc, encWn, intsB_cons, intsB_nil, List.append_nil, List.append_assoc]
          · rw [List.any_append, c2, List.any_cons]
            rfl
        rw [HK.out] at HM
        have hok4 : ∀ x ∈ dn ++ [(⟨y0, y1, y2⟩ : Wn)], rdWn.ok w9 x := fun x hx => by
          rcases List.mem_append.1 hx with hx | hx
          · exact hok x hx
          · obtain rfl := List.mem_singleton.1 hx
            exact ⟨j0, j1, j2⟩
        have hbl4 : ∀ x ∈ dn ++ [(⟨y0, y1, y2⟩ : Wn)], ∀ b, ftWn.blk x b → w3.heap.size ≤ b ∧ (Value.slice (some ⟨gg, 0, none⟩) (k + 1) cap).ownBlock ≠ some b := fun x hx b hb => hb.elim
        clear hownC hatC hownB
        go_wp2_with fail
        exact ⟨⟨_, k + 1, dn ++ [(⟨y0, y1, y2⟩ : Wn)], s2x2, by omega, by go_num, by simp [hdl], by rw [List.flatMap_append]; simpa [rdWn, Wn.f, Hd.v] using howne, hok4, hbl4, hre, bpe, hfe, HM, HC4⟩, by simp [intOf]; omega⟩
      · have hd : decide (k < N2 ∧ s2.e = 0) = false := decide_eq_false hlt
        rw [hd]
        clear hd d2
        have HFIN : Hid (z2 = s2) := by
          unfold Hid
          rw [K2.out, HG.out]
          by_cases hkn : k < N2
          · exact kRep_err (fun h => hlt ⟨hkn, h⟩)
          · rw [show N2 - k = 0 by omega]
            rfl
        have v2 : Hid (s2.e = 0 → s1.l = lst encWn dn ++ s2.l ∧ badL noB dn = false) := fun he => by
          obtain ⟨c0, c1, c2⟩ := HC.out he
          have hkn : k = N2 := by
            by_cases hkn : k < N2
            · exact absurd ⟨hkn, he⟩ hlt
            · omega
          refine ⟨?_, ?_⟩
          · rw [V2.out c0, c1, ← hkn, ← hdl]
            unfold lst
            rw [List.append_assoc]
          · unfold badL
            rw [c2, hdl]
            simp
            omega
        rw [HFIN.out] at HS u2
        obtain ⟨A9, c9, hv9, hs9, hb9⟩ := SlG.of_own hown (fun x _ => rdWn.len x) hdl
        rw [hv9] at bp
        obtain ⟨n2, hn2⟩ : ∃ h : Hd Wn, h = ⟨A9, c9, dn⟩ := ⟨_, rfl⟩
        have eA : A9 = n2.A := by rw [hn2]
        have ec : c9 = n2.c := by rw [hn2]
        have el : dn = n2.l := by rw [hn2]
        have o2 : n2.ok rdWn w4 := by rw [hn2]; exact ⟨by rw [← hdl] at hs9; exact hs9, hok⟩
        have q2 : ∀ b, blkH ftWn n2 b → gp < b ∧ g < b := fun b hb => by
          rw [hn2] at hb
          have h9 : w3.heap.size ≤ b := by
            rcases hb with ⟨_, o, e⟩ | ⟨x, hx, hb⟩
            · exact hb9 b o e
            · exact (hbl x hx b hb).1
          exact ⟨by omega, by omega⟩
        rw [el] at v2 hdl
        rw [eA, ec, ← hdl] at bp
        clear hdl hn2 eA ec el hs9 hb9 hv9 hok hbl hown HG HC V2 K2 HFIN hlt
        have hrw4 := hr
        have bpw4 := bp
        clear hr bp
        have brw4 := brw3.fr hfw (fun h => h.elim hrg hrp)
        have Fw4 := Fw3.trans hfw
        clear brw3 Fw3
        clear hfw hrw3 bpw3 lpsw3 hsz hgw
        go_upto_region 9 with fail
        have pc0 : w4.cell? ⟨gp, 0, none⟩ = some (.int .i64 n1) := bpw4.cell 0
        have pc1 : w4.cell? ⟨gp, 1, none⟩ = some (.slice n2.A n2.l.length n2.c) := bpw4.cell 1
        have z0 : w4.cell? ⟨gr, 0, none⟩ = some (.int .i64 0) := brw4.cell 0
        have z1 : w4.cell? ⟨gr, 1, none⟩ = some (.slice none 0 0) := brw4.cell 1
        have lp := bpw4.lt
        have lr := brw4.lt
        have fz : ∀ i, w4.frozen? ⟨gr, i, none⟩ = false := brw4.frozen
        go_wp2_with fail
        have rK : Blk (setRow w4 gr 0 [.int .i64 n1, .slice n2.A n2.l.length n2.c]) gr 58 _ := Blk.row brw4 rfl
        have rF : Fr (fun q => q = gr) w4 (setRow w4 gr 0 [.int .i64 n1, .slice n2.A n2.l.length n2.c]) := Fr.row _ 0 (Fr.refl _ _) (fun _ => rfl)
        simp only [setRow, Nat.zero_add] at rK rF
        generalize (w4.setCell ⟨gr, 0, none⟩ (.int .i64 n1)).setCell ⟨gr, 1, none⟩ (.slice n2.A n2.l.length n2.c) = w9 at rK rF ⊢
        have y0 : w9.cell? ⟨gr, 0, none⟩ = some (.int .i64 n1) := rK.cell 0
        have y1 : w9.cell? ⟨gr, 1, none⟩ = some (.slice n2.A n2.l.length n2.c) := rK.cell 1
        have hr9 := hrw4.fr rF (fun q hq => by omega)
        have F9 : Fr (fun q => q = g) w w9 := ((Fr.of_below hb0 (fun q => q = g)).trans' Fw4 (fun q hq h => h.elim id (fun h => by omega))).trans' rF (fun q hq h => by omega)
        replace o2 := okH_fr ftWn o2 rF (fun b hb e => by have := q2 b hb; omega)
        have HE : Hid ((kMd s).e = 0 → s.l = encMd ⟨n1, n2⟩ ++ (kMd s).l ∧ badMd (⟨n1, n2⟩ : Md) = false) := fun he => by
          rw [HS.out] at he ⊢
          obtain ⟨l2, d2⟩ := v2.out he
          have e2 := u2.out he
          obtain ⟨e1, l1⟩ := v1.out e2
          refine ⟨?_, by unfold badMd; simp [d2]⟩
          rw [l1, l2]
          unfold encMd
          simp only [List.append_assoc]
        rw [HS.out] at HE
        try simp only [Exit.inBlock, Exit.then]
        refine bodyPost_ret (v := .agg #[.int .i64 n1, .slice n2.A n2.l.length n2.c]) (by simp [results, Tryz.results44, go_sem, y0, y1]) rfl ?_
        refine ⟨⟨n1, n2⟩, rfl, ⟨o1, o2⟩, fun b hb => ?_, by rw [HS.out]; exact hr9, F9, by rw [HS.out]; exact HE⟩
        have := q2 b hb
        omega
end Go.Proofs.YtahjnonkhbpnpaaGreat
