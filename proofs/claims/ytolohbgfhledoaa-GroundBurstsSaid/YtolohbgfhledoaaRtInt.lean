/- The document's reading of a number: TakeInt walked. -/
import Derived.Test.YtolohbgfhledoaaRdInt
import Derived.Deep.DeepCutAuto
namespace Go.Proofs.Ytolohbgfhledoaa
open Go.RowKit
/-- what the document's TakeInt answers, of how many bytes there are and what is read -/
def tkV (n : Nat) : Rd → Int × Int × Int
  | .ok u r => (unt u, ((n - r.length : Nat) : Int), 0)
  | .cut => (0, 0, 10)
  | .form _ => (0, 0, 12)
def tkR (l : List UInt8) (at_ : Nat) : Int × Int × Int := tkV l.length (rdW (l.drop at_) 0 0)
theorem tkR_gInt (l : List UInt8) (at_ : Nat) : tkR l at_ = if (gInt ⟨l.drop at_, 0⟩).2.e = 0 then ((gInt ⟨l.drop at_, 0⟩).1, ((l.length - (gInt ⟨l.drop at_, 0⟩).2.l.length : Nat) : Int), 0) else (0, 0, (gInt ⟨l.drop at_, 0⟩).2.e) := by
  unfold tkR gInt
  simp only [ne_eq, not_true_eq_false, if_false]
  cases rdW (l.drop at_) 0 0 <;> simp [tkV]
theorem drop_at (l : List UInt8) (k : Nat) (h : k < l.length) : l.drop k = atB l k :: l.drop (k + 1) := by
  rw [List.drop_eq_getElem_cons h]
  simp [atB, h]
set_option maxRecDepth 100000 in
set_option maxHeartbeats 1000000 in
theorem takeIntR_any {w : World} {A : Option Addr} {n c : Nat} {l : List UInt8} (hl : SlB w A n c l) (hn : n ≤ 1000000) {a : Nat} (ha : a ≤ n) :
    Calls Try.prog 34 #[.slice A n c, .int .i64 (a : Int)] w fun x w' => x = .returned (.tuple #[.int .i64 (tkR l a).1, .int .i64 (tkR l a).2.1, .int .i64 (tkR l a).2.2]) ∧ w = w' := by
  have hln := hl.2
  have HT : Hid (tkR l a = tkV n (rdW (l.drop a) 0 0)) := by unfold Hid tkR; rw [← hln]
  generalize tkR l a = T at HT ⊢
  go_enter Try.func34, Try.ntmps34
  go_wp2_with fail
  obtain ⟨wo, rfl⟩ : ∃ wo : World, wo = w := ⟨_, rfl⟩
  go_loopw [7, 8, 9] (fun v m i wr => ∃ (k acc : Nat), k ≤ 9 ∧ a + k ≤ n ∧ i = .int .i64 k ∧ v = .int .u64 (acc : Int) ∧ m = .int .u64 ((128 ^ k : Nat) : Int) ∧ acc < 128 ^ k ∧ Hid (rdW (l.drop a) 0 0 = rdW (l.drop (a + k)) k acc) ∧ wr = wo) (fun _ _ i _ => 10 - (intOf i).toNat)
  case atStart => exact ⟨0, 0, by omega, by omega, rfl, rfl, rfl, by decide, rfl, rfl⟩
  case round =>
    obtain ⟨k, acc, hk, hak, rfl, rfl, rfl, hacc, HR, rfl⟩ := hrel
    have h10 : (k : Int) < 10 := by omega
    by_cases hend : a + k = n
    · have ht : (n : Int) ≤ (a : Int) + k := by omega
      have hres : T = (0, 0, 10) := by
        rw [HT.out, HR.out, List.drop_eq_nil_of_le (by omega)]
        rfl
      have HRES := Lib.hid hres
      clear hres HR HT hend
      go_wp2_with fail
      go_ret3
      rw [HRES.out]
      exact ⟨rfl, rfl⟩
    · have ht : ¬ (n : Int) ≤ (a : Int) + k := by omega
      obtain ⟨b, o, rfl, hbl, hc0⟩ := hl.at_ (k := a + k) (by omega)
      have hc : wr.cell? ⟨b, o + (a + k), none⟩ = some (.int .u8 ((atB l (a + k)).toNat : Int)) := hc0
      have hz := u8_lt (atB l (a + k))
      have HD := drop_at l (a + k) (by omega)
      have HR2 : Hid (rdW (l.drop a) 0 0 = if okB k (atB l (a + k)) then (if (atB l (a + k)).toNat < 128 then .ok (acc + (atB l (a + k)).toNat % 128 * 128 ^ k) (l.drop (a + k + 1)) else rdW (l.drop (a + k + 1)) (k + 1) (acc + (atB l (a + k)).toNat % 128 * 128 ^ k)) else .form (l.drop (a + k + 1))) := by
        unfold Hid
        rw [HR.out, HD, rdW]
      have HOK1 := fun h => @okB_u k (atB l (a + k)) h
      have HOK2 := fun h h' => @okB_of k (atB l (a + k)) h h'
      generalize hx : atB l (a + k) = x at hc hz HR2 HOK1 HOK2 hc0
      clear HD HR hx hc0
      by_cases hbad : (k = 9 ∧ 1 < x.toNat) ∨ (0 < k ∧ x.toNat = 0)
      · have hres : T = (0, 0, 12) := by
          rw [HT.out, HR2.out, if_neg (fun hok => by have := HOK1 hok; omega)]
          rfl
        have HRES := Lib.hid hres
        clear hres HR2 HT HOK1 HOK2
        generalize x.toNat = z at hc hz hbad
        by_cases h9 : k = 9
        · by_cases hz1 : 1 < z
          · have t1 : decide ((1 : Int) < z) = true := by simp; omega
            have t0 : ((k : Int) == 9) = true := by simp; omega
            clear hbad h9 hz1
            go_wp2_with fail
            go_ret3
            rw [HRES.out]
            exact ⟨rfl, rfl⟩
          · have t1 : decide ((1 : Int) < z) = false := by simp; omega
            have t2 : ((z : Int) == 0) = true := by simp; omega
            have t3 : 0 < k := by omega
            have t0 : ((k : Int) == 9) = true := by simp; omega
            clear hbad h9 hz1
            go_wp2_with fail
            go_ret3
            rw [HRES.out]
            exact ⟨rfl, rfl⟩
        · have t2 : ((z : Int) == 0) = true := by simp; omega
          have t3 : 0 < k := by omega
          have t0 : ((k : Int) == 9) = false := by simp; omega
          clear hbad h9
          go_wp2_with fail
          go_ret3
          rw [HRES.out]
          exact ⟨rfl, rfl⟩
      · have HR3 : Hid (rdW (l.drop a) 0 0 = if x.toNat < 128 then .ok (acc + x.toNat % 128 * 128 ^ k) (l.drop (a + k + 1)) else rdW (l.drop (a + k + 1)) (k + 1) (acc + x.toNat % 128 * 128 ^ k)) := by
          unfold Hid
          rw [HR2.out, if_pos (HOK2 (fun h => by omega) (fun h => by omega))]
        clear HR2 HOK1 HOK2
        generalize x.toNat = z at hc hz hbad HR3
        clear x
        have hcase : (k = 9 ∧ z = 1) ∨ (k = 0) ∨ (0 < k ∧ k < 9 ∧ 0 < z) := by omega
        have hpos : 0 < 128 ^ k := Nat.pow_pos (by decide)
        have hM : (k = 9 → 128 ^ k = 9223372036854775808) ∧ (k ≤ 8 → 128 ^ k ≤ 72057594037927936) := by
          refine ⟨fun h => by subst h; decide, fun h => ?_⟩
          exact Nat.le_trans (Nat.pow_le_pow_right (by decide) h) (by decide)
        have hM1 : 128 ^ (k + 1) = 128 ^ k * 128 := Nat.pow_succ _ _
        have hmul : z % 128 * 128 ^ k ≤ 127 * 128 ^ k ∧ (z = 1 → z % 128 * 128 ^ k = 128 ^ k) := ⟨Nat.mul_le_mul_right _ (by omega), fun h => by subst h; simp⟩
        have hacc1 : acc + z % 128 * 128 ^ k < 128 ^ (k + 1) := by omega
        have e0 : ((z : Int) % 128 * ((128 ^ k : Nat) : Int)) = ((z % 128 * 128 ^ k : Nat) : Int) := by simp
        have HA : Hid (IntKind.u64.wrap ((acc : Int) + IntKind.u64.wrap ((z : Int) % 128 * 128 ^ k)) = ((acc + z % 128 * 128 ^ k : Nat) : Int)) := by
          unfold Hid
          have i1 : IntKind.u64.wrap ((z % 128 * 128 ^ k : Nat) : Int) = ((z % 128 * 128 ^ k : Nat) : Int) := IntWalk.u64_in _ (by omega)
          have i2 : IntKind.u64.wrap ((acc : Int) + ((z % 128 * 128 ^ k : Nat) : Int)) = (acc : Int) + ((z % 128 * 128 ^ k : Nat) : Int) := IntWalk.u64_in _ (by omega)
          rw [show ((z : Int) % 128 * 128 ^ k) = ((z % 128 * 128 ^ k : Nat) : Int) by simp, i1, i2]
          omega
        have hlt64 : acc + z % 128 * 128 ^ k < 18446744073709551616 := by omega
        have hge : ¬ z < 128 → k ≤ 8 := by omega
        have HM2 : Hid (k ≤ 8 → IntKind.u64.wrap (128 ^ k * 128) = ((128 ^ (k + 1) : Nat) : Int)) := by
          unfold Hid
          intro h
          rw [show ((128 : Int) ^ k * 128) = ((128 ^ k * 128 : Nat) : Int) by simp, hM1, IntWalk.u64_in _ (by omega)]
        clear hM hM1 hmul e0 hpos
        have hfacts : (decide ((1 : Int) < z) = false ∧ ((z : Int) == 0) = false ∧ 0 < k ∧ ((k : Int) == 9) = true) ∨ (¬ 0 < k ∧ ((k : Int) == 9) = false) ∨ (((z : Int) == 0) = false ∧ 0 < k ∧ ((k : Int) == 9) = false) := by
          rcases hcase with ⟨h9, hz⟩ | hk0 | ⟨hk0, h9, hz⟩
          · exact .inl ⟨by simp; omega, by simp; omega, by omega, by simp; omega⟩
          · exact .inr (.inl ⟨by omega, by simp; omega⟩)
          · exact .inr (.inr ⟨by simp; omega, by omega, by simp; omega⟩)
        clear hbad hcase
        rcases hfacts with ⟨t1, t2, t3, t0⟩ | ⟨t3, t0⟩ | ⟨t2, t3, t0⟩
        all_goals
          go_upto_region 12 with fail
          rw [HA.out]
          clear HA
          generalize acc + z % 128 * 128 ^ k = u at hacc1 hlt64 HR3 ⊢
          by_cases hlt : z < 128
          · have hlt' : decide ((z : Int) < 128) = true := by simp; omega
            have HR4 : Hid (T = (unt u, ((a + k + 1 : Nat) : Int), 0)) := by
              unfold Hid
              rw [HT.out, HR3.out, if_pos hlt]
              simp only [tkV, List.length_drop, hln]
              congr 2
              omega
            have HU : Hid (unt u = if u % 2 = 1 then -((u / 2 : Nat) : Int) - 1 else ((u / 2 : Nat) : Int)) := rfl
            clear HR3 HT hlt
            by_cases hodd : u % 2 = 1
            · have ho : ((u : Int) % 2 == 1) = true := by simp; omega
              have HU2 : Hid (T = (-((u / 2 : Nat) : Int) - 1, ((a + k + 1 : Nat) : Int), 0)) := by unfold Hid; rw [HR4.out, HU.out, if_pos hodd]
              clear HR4 HU hodd
              go_wp2_with fail
              go_ret3
              exact ⟨by rw [HU2.out]; simp, rfl⟩
            · have ho : ((u : Int) % 2 == 1) = false := by simp; omega
              have HU2 : Hid (T = (((u / 2 : Nat) : Int), ((a + k + 1 : Nat) : Int), 0)) := by unfold Hid; rw [HR4.out, HU.out, if_neg hodd]
              clear HR4 HU hodd
              go_wp2_with fail
              go_ret3
              exact ⟨by rw [HU2.out]; simp, rfl⟩
          · have hlt' : decide ((z : Int) < 128) = false := by simp; omega
            have HR4 : Hid (rdW (l.drop a) 0 0 = rdW (l.drop (a + (k + 1))) (k + 1) u) := by
              unfold Hid
              rw [HR3.out, if_neg hlt, Nat.add_assoc]
            have hk8 := hge hlt
            have HM3 := Lib.hid (HM2.out hk8)
            clear HR3 hge HM2 hlt
            go_wp2_with fail
            exact ⟨⟨k + 1, u, by omega, by omega, by go_num, rfl, by rw [HM3.out], hacc1, HR4, trivial⟩, by simp [intOf]; omega⟩
end Go.Proofs.Ytolohbgfhledoaa
