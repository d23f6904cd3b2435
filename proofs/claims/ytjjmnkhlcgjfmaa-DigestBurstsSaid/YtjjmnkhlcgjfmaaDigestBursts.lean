/- The law DigestBursts returns true whatever the input. -/
import Derived.Test.YtjjmnkhlcgjfmaaDigWorks
import Derived.Test.YtjjmnkhlcgjfmaaDigBurst
namespace Go.Proofs.Ytjjmnkhlcgjfmaa
open Go.RowKit
theorem u8_info : (Try.prog.info? 5).map (fun i => (i.zero, i.size, i.bytes)) = some (some (.int .u8 0), 1, 1) := by kernel_rfl
theorem bv_one (l : List UInt8) : ∀ u ∈ l.map bv, u.oneCell' = true := by
  intro u hu
  obtain ⟨x, _, rfl⟩ := List.mem_map.1 hu
  rfl
/-- an empty literal is an owned row -/
theorem own_lit0 (w : World) (e : TypeId) (size : Nat) : (w.alloc (.cells #[] e)).ownsRow w.heap.size e size (.slice (some ⟨w.heap.size, 0, none⟩) 0 0) 0 [] :=
  ⟨by simp, .inr ⟨w.heap.size, 0, #[], rfl, Nat.le_refl _, heap_alloc_new w _, Nat.le_refl _, by unfold maxLen; omega, by simp, by simp⟩⟩
theorem SlB.of_row {w : World} {g n cap : Nat} {t : TypeId} {cu : Array Value} {l : List UInt8} (hb : Blk w g t cu) (hll : l.length = n) (hn : n ≤ cap) (hm : cap ≤ maxLen) (ht : cu.toList.take n = l.map bv) : SlB w (some ⟨g, 0, none⟩) n cap l :=
  ⟨⟨by simp [hll], hn, hm, (fun e => by cases e), fun _ => ⟨g, 0, rfl, hb.lt, fun j u hu => by
    rw [Nat.zero_add, hb.cell j]
    rw [← ht, List.getElem?_take] at hu
    split at hu
    · simpa using hu
    · cases hu⟩⟩, hll⟩
theorem turn_u8 (x : UInt8) (j : Nat) (hj : j < 8) : ∃ y : UInt8, y.toNat = x.toNat ^^^ 2 ^ j ∧ bits .xor .u8 (x.toNat : Int) (2 ^ j % 256) = (y.toNat : Int) := by
  have hp : 2 ^ j < 2 ^ 8 := Nat.pow_lt_pow_right (by decide) hj
  have hx := u8_lt x
  have hlt : x.toNat ^^^ 2 ^ j < 256 := Nat.xor_lt_two_pow (n := 8) hx hp
  refine ⟨UInt8.ofNat (x.toNat ^^^ 2 ^ j), ?_, ?_⟩
  · rw [UInt8.toNat_ofNat']; exact Nat.mod_eq_of_lt hlt
  · rw [UInt8.toNat_ofNat', Nat.mod_eq_of_lt hlt]
    have h := u8_xor_nat x.toNat (2 ^ j) (by omega) hp
    rw [← h]
    congr 1
    rw [show ((2 : Int) ^ j) = ((2 ^ j : Nat) : Int) from by simp]
    have hp' : 2 ^ j < 256 := hp
    generalize 2 ^ j = z at hp' ⊢
    omega
theorem row_set {cu : Array Value} {n i : Nat} {l : List UInt8} (ht : cu.toList.take n = l.map bv) (y : UInt8) : (cu.setIfInBounds i (bv y)).toList.take n = (l.set i y).map bv := by
  rw [Array.toList_setIfInBounds, List.take_set, ht, List.map_set]

set_option maxRecDepth 100000 in
theorem digestBursts_law {w : World} {A : Option Addr} {n c : Nat} {l : List UInt8} (hl : SlB w A n c l) (a : Nat) (ha : a < 65536) (m : Nat) (_hm : m < 4294967296) :
    Calls Try.prog 4 #[.slice A n c, .int .u16 (a : Int), .int .u32 (m : Int)] w fun e w' => e = .returned (.bool true) ∧ Below w.heap.size w w' := by
  have hll := hl.2
  by_cases h1 : (2000 : Int) < n
  · go_enter Try.func4, Try.ntmps4
    go_wp2_with fail
    refine (works_any _).mono ?_
    rintro e w2 ⟨rfl, hb2⟩
    go_wp2_with fail
    go_ret
    exact ⟨rfl, hb2⟩
  · have h1' : decide ((2000 : Int) < n) = false := by simpa using h1
    by_cases h2 : n = 0
    · have h2' : ((n : Int) == 0) = true := by simp; omega
      go_enter Try.func4, Try.ntmps4
      go_wp2_with fail
      refine (works_any _).mono ?_
      rintro e w2 ⟨rfl, hb2⟩
      go_wp2_with fail
      go_ret
      exact ⟨rfl, hb2⟩
    · have h2' : ((n : Int) == 0) = false := by simp; omega
      go_enter Try.func4, Try.ntmps4
      obtain ⟨i0, hi0, hz0, hz1, hz2⟩ := info_parts u8_info
      have hown0 := own_lit0 w 5 1
      have hb0 := (Below.refl w.heap.size w).alloc (Nat.le_refl _) (.cells #[] 5)
      have hl0 := hl.keep hb0
      obtain ⟨b, o, rfl, hbl, hc0⟩ := hl0.1.at_ (by omega)
      have h3 : n ≤ 2000 := by omega
      go_wp2_with (at_builtin; refine wpList_append_own_at _ (by rfl) _ _ 31 (by rfl) w.heap.size 5 i0 _ 1 1 Try.underlying31 hi0 hz0 hz1 hz2 rfl (by decide) _ 0 _ (by rfl) hown0 ⟨b, o, none⟩ n c (l.map bv) (by rfl) (by simp; omega) (fun j u hu => by rw [add_none]; exact hc0 j u hu) (bv_one l) (by unfold maxLen; omega) (by omega) (by simp) ?_; intro v' w1 hown1 hg1 hnil1 hat1)
      obtain ⟨hnl, hown⟩ := hown1
      rcases hown with ⟨_, hz⟩ | ⟨g, cap, cur, rfl, hbg, hgh, hnc, hcm, hcs, hct⟩
      · omega
      rw [Nat.zero_add, Nat.mul_one, List.nil_append] at hct
      have hb1 : Below w.heap.size w w1 := hb0.grown hg1 (by simp) (fun k e => by cases e; exact Nat.le_refl _)
      have hsz1 := hb1.size
      have hgl : g < w1.heap.size := (Array.getElem?_eq_some_iff.1 hgh).1
      have hwf : (a : Int) % (8 * (n : Int)) = ((a % (8 * n) : Nat) : Int) := by simp
      have hf : a % (8 * n) < 8 * n := Nat.mod_lt _ (by omega)
      rw [hwf]
      generalize a % (8 * n) = f at hf ⊢
      clear hwf hg1 hnil1 hat1 hown0 hc0
      rw [Nat.zero_add] at hnc
      simp only [Nat.mul_one] at hcs
      simp only [Nat.zero_add]
      go_loopw [9, 10] (fun s i wr => ∃ (k B : Nat) (lk : List UInt8) (cu : Array Value), k ≤ 32 ∧ i = .int .i64 k ∧ s = .bool (decide (B ≠ 0)) ∧ B < 2 ^ k ∧ turned l lk f B ∧ Blk wr g 5 cu ∧ cu.size = cap ∧ cu.toList.take n = lk.map bv ∧ Below w.heap.size w wr) (fun _ i _ => 32 - (intOf i).toNat)
      case atStart => exact ⟨0, 0, l, cur, by omega, rfl, rfl, by decide, turned_refl l f, hgh, hcs, hct, hb1⟩
      case round =>
        obtain ⟨k, B, lk, cu, hk, rfl, rfl, hB, htn, hbk, hcs2, hct2, hbw⟩ := hrel
        by_cases hgo : k < 32 ∧ (f : Int) + k < 8 * n
        · obtain ⟨hlt, hin⟩ := hgo
          · have hlt' : decide ((k : Int) < 32) = true := by simp; omega
            by_cases hbt : ((m : Int) / 2 ^ k).tmod 2 = 1
            · have hbt' : (((m : Int) / 2 ^ k).tmod 2 == 1) = true := by simpa using hbt
              clear hbt
              have hi : (f + k) / 8 < n := by omega
              have hc1 : wr.cell? ⟨g, (f + k) / 8, none⟩ = some (.int .u8 ((atB lk ((f + k) / 8)).toNat : Int)) := by
                rw [hbk.cell]
                have h1 : cu.toList[(f + k) / 8]? = some (bv (atB lk ((f + k) / 8))) := by
                  have h2 := congrArg (fun z => z[(f + k) / 8]?) hct2
                  simp only [List.getElem?_take, if_pos hi, List.getElem?_map] at h2
                  rw [h2, List.getElem?_eq_getElem (show (f + k) / 8 < lk.length by rw [htn.1]; omega), atB_lt (show (f + k) / 8 < lk.length by rw [htn.1]; omega)]
                  rfl
                simpa [bv] using h1
              have hfz : wr.frozen? ⟨g, (f + k) / 8, none⟩ = false := hbk.frozen _
              go_wp2_with fail
              obtain ⟨y, hy, hy2⟩ := turn_u8 (atB lk ((f + k) / 8)) ((f + k) % 8) (Nat.mod_lt _ (by decide))
              rw [hy2]
              exact ⟨⟨k + 1, B ^^^ 2 ^ k, lk.set ((f + k) / 8) y, cu.setIfInBounds ((f + k) / 8) (bv y), by omega, by go_num, by rw [decide_eq_true (more_ne hB)], more_lt hB, turned_more htn (by omega) hy, hbk.set_ _ _, by simp [hcs2], row_set hct2 y, hbw.setCell hbg _⟩, by simp [intOf]; omega⟩
            · have hbt' : (((m : Int) / 2 ^ k).tmod 2 == 1) = false := by simpa using hbt
              clear hbt
              have hB2 : B < 2 ^ (k + 1) := Nat.lt_of_lt_of_le hB (Nat.pow_le_pow_right (by decide) (by omega))
              go_wp2_with fail
              exact ⟨⟨k + 1, B, lk, cu, by omega, by go_num, rfl, hB2, htn, hbk, hcs2, hct2, hbw⟩, by simp [intOf]; omega⟩
        · have hB2 : B < 4294967296 := Nat.lt_of_lt_of_le hB (show 2 ^ k ≤ 2 ^ 32 from Nat.pow_le_pow_right (by decide) hk)
          have HC := Lib.hid (turned_crc htn (by omega) hB2)
          have hs1 := SlB.of_row hbk (by rw [htn.1]; exact hll) hnc hcm hct2
          have hlw := hl.keep hbw
          have hcl := crc_lt l
          have hcl2 := crc_lt lk
          clear htn hct2 hB
          have hend : (k < 32 ∧ decide ((k : Int) < 32) = true ∧ decide ((f : Int) + k < 8 * n) = false) ∨ decide ((k : Int) < 32) = false := by
            by_cases hlt : k < 32
            · exact .inl ⟨hlt, by simp; omega, by simp; omega⟩
            · exact .inr (by simp; omega)
          clear hgo
          rcases hend with ⟨hk1, hk2, hk3⟩ | hk2
          all_goals
            go_wp2_with fail
            refine (sum_any hs1).mono ?_
            rintro e w2 ⟨rfl, hb2⟩
            go_wp2_with fail
            refine (sum_any (hlw.keep hb2)).mono ?_
            rintro e w3 ⟨rfl, hb3⟩
            have hbA := (hbw.trans (hb2.mono hbw.size))
            have hbB := hbA.trans (hb3.mono hbA.size)
            generalize crc lk = p at hcl2 HC ⊢
            generalize crc l = q at hcl HC ⊢
            have hfin : ((p : Int) != (q : Int)) = !decide (B = 0) := by
              by_cases h0 : B = 0
              · rw [HC.out.2 h0, h0]; simp
              · have : ¬ p = q := fun e => h0 (HC.out.1 e)
                have h2 : ((p : Int) != (q : Int)) = true := by simp; omega
                rw [h2]; simp [h0]
            go_wp2_with fail
            refine (works_any _).mono ?_
            rintro e w4 ⟨rfl, hb4⟩
            go_wp2_with fail
            go_ret
            exact ⟨rfl, hbB.trans (hb4.mono hbB.size)⟩
end Go.Proofs.Ytjjmnkhlcgjfmaa
