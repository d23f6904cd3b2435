/- The law GroundBursts returns true whatever the input. -/
import Derived.Test.YtolohbgfhledoaaRtTake
import Derived.Test.YtolohbgfhledoaaGrArgs
import Derived.Test.YtolohbgfhledoaaArgs2
import Derived.Test.YtolohbgfhledoaaDigBurst
namespace Go.Proofs.Ytolohbgfhledoaa
open Go.RowKit
theorem low_xor {a y : Nat} (ha : a < 256) : a ^^^ 256 * y = a + 256 * y := by
  apply Nat.eq_of_testBit_eq
  intro i
  rw [Nat.testBit_xor, show (256 : Nat) = 2 ^ 8 from rfl, Nat.add_comm a, Nat.testBit_two_pow_mul_add y (show a < 2 ^ 8 from ha) i, Nat.testBit_two_pow_mul]
  by_cases h : i < 8
  · rw [if_pos h]
    have : decide (i ≥ 8) = false := by simp; omega
    rw [this]
    simp
  · rw [if_neg h]
    have : decide (i ≥ 8) = true := by simp; omega
    rw [this, Nat.testBit_lt_two_pow (Nat.lt_of_lt_of_le ha (show 256 ≤ 2 ^ i from by rw [show (256 : Nat) = 2 ^ 8 from rfl]; exact Nat.pow_le_pow_right (by decide) (by omega)))]
    simp
theorem num_lowB {x : Nat} (hx : x < 4294967296) : num (lowB x) = x := by
  have h : ∀ y : Nat, (ob (y % 256)).toNat = y % 256 := fun y => ob_toNat (Nat.mod_lt _ (by decide))
  unfold lowB
  simp only [num, h]
  rw [low_xor (Nat.mod_lt _ (by decide)), low_xor (Nat.mod_lt _ (by decide)), low_xor (Nat.mod_lt _ (by decide)), low_xor (Nat.mod_lt _ (by decide))]
  omega
/-- with its own sum behind it, bytes have one sum, whatever they are. -/
theorem crc_own (m : List UInt8) : crc (m ++ lowB (crc m)) = stpN 32 M32 ^^^ M32 := by
  have hr := crcL_lt (r := M32) (by decide) m
  unfold crc
  rw [crcL_append, crcL_num (crcL M32 m), lowB_len, num_lowB (xor32 hr (by decide)), ← Nat.xor_assoc, Nat.xor_self, Nat.zero_xor]
theorem crc_pack (p : Pk) : crc (packB p) = stpN 32 M32 ^^^ M32 := crc_own _
theorem burst_apart {p q : Pk} {l : List UInt8} {f B : Nat} (h : turned (packB p) l f B) (hf : f ≤ 8 * (packB p).length) (hB : B < 4294967296) (hq : l = packB q) : B = 0 :=
  (turned_crc h hf hB).1 (by rw [hq, crc_pack, crc_pack])
theorem burst_take {p : Pk} {l : List UInt8} {f B : Nat} (h : turned (packB p) l f B) (hf : f ≤ 8 * (packB p).length) (hB : B < 4294967296) (h0 : B ≠ 0) (he : (takeP l).2.2 = 0) : (takeP l).2.1 ≠ (packB p).length := fun hn => by
  obtain ⟨s, h1, h2, _⟩ := takeP_ok he
  have hl := congrArg List.length h1
  rw [List.length_append, h.1, ← hn, h2] at hl
  have hs : s = [] := List.eq_nil_of_length_eq_zero (by omega)
  rw [hs, List.append_nil] at h1
  exact h0 (burst_apart h hf hB h1)
theorem u8_info : (Try.prog.info? 5).map (fun i => (i.zero, i.size, i.bytes)) = some (some (.int .u8 0), 1, 1) := by kernel_rfl
theorem bv_one (l : List UInt8) : ∀ u ∈ l.map bv, u.oneCell' = true := by
  intro u hu
  obtain ⟨x, _, rfl⟩ := List.mem_map.1 hu
  rfl
/-- an empty literal is an owned row. -/
theorem own_lit0 (w : World) (e : TypeId) (size : Nat) : (w.alloc (.cells #[] e)).ownsRow w.heap.size e size (.slice (some ⟨w.heap.size, 0, none⟩) 0 0) 0 [] :=
  ⟨by simp, .inr ⟨w.heap.size, 0, #[], rfl, Nat.le_refl _, heap_alloc_new w _, Nat.le_refl _, by unfold maxLen; omega, by simp, by simp⟩⟩
theorem SlB.of_row {w : World} {g n cap : Nat} {t : TypeId} {cu : Array Value} {l : List UInt8} (hb : Blk w g t cu) (hll : l.length = n) (hn : n ≤ cap) (hm : cap ≤ maxLen) (ht : cu.toList.take n = l.map bv) : SlB w (some ⟨g, 0, none⟩) n cap l :=
  ⟨⟨by simp [hll], hn, hm, (fun e => by cases e), fun _ => ⟨g, 0, rfl, hb.lt, fun j u hu => by
    rw [Nat.zero_add, hb.cell j]
    rw [← ht, List.getElem?_take] at hu
    split at hu
    · simpa using hu
    · cases hu⟩⟩, hll⟩
theorem turn_u8 (x : UInt8) (j : Nat) (hj : j < 8) : ∃ y : UInt8, y.toNat = x.toNat ^^^ 2 ^ j ∧ bits .xor .u8 (x.toNat : Int) (2 ^ j % 256) = (y.toNat : Int) := by
  have hp : 2 ^ j < 2 ^ 8 := Nat.pow_lt_pow_right (by decide) hj
  have hx := u8_lt x
  have hlt : x.toNat ^^^ 2 ^ j < 256 := Nat.xor_lt_two_pow (n := 8) hx hp
  refine ⟨UInt8.ofNat (x.toNat ^^^ 2 ^ j), ?_, ?_⟩
  · rw [UInt8.toNat_ofNat']; exact Nat.mod_eq_of_lt hlt
  · rw [UInt8.toNat_ofNat', Nat.mod_eq_of_lt hlt]
    have h := u8_xor_nat x.toNat (2 ^ j) (by omega) hp
    rw [← h]
    congr 1
    rw [show ((2 : Int) ^ j) = ((2 ^ j : Nat) : Int) from by simp]
    have hp' : 2 ^ j < 256 := hp
    generalize 2 ^ j = z at hp' ⊢
    omega
theorem row_set {cu : Array Value} {n i : Nat} {l : List UInt8} (ht : cu.toList.take n = l.map bv) (y : UInt8) : (cu.setIfInBounds i (bv y)).toList.take n = (l.set i y).map bv := by
  rw [Array.toList_setIfInBounds, List.take_set, ht, List.map_set]

set_option maxRecDepth 100000 in
set_option maxHeartbeats 3200000 in
theorem groundBursts_law {w : World} {p : Pk} (hp : p.ok) (a : Nat) (ha : a < 65536) (m : Nat) (_hm : m < 4294967296) :
    Calls Try.prog 4 #[p.val, .int .u16 (a : Int), .int .u32 (m : Int)] w fun e w' => e = .returned (.bool true) ∧ Below w.heap.size w w' := by
  have hPK := packB_len p
  have hPL := plB_len p
  have hXl : 9 ≤ (packB p).length ∧ (packB p).length ≤ 49 := by omega
  clear hPK hPL
  have HPR : Hid (packR p = if mayP p = true then (packB p, 0) else ([], 2)) := rfl
  have HBT : Hid (∀ l f B, turned (packB p) l f B → f ≤ 8 * (packB p).length → B < 4294967296 → B ≠ 0 → (takeP l).2.2 = 0 → (takeP l).2.1 ≠ (packB p).length) := fun l f B h1 h2 h3 h4 h5 => burst_take h1 h2 h3 h4 h5
  obtain ⟨q, k, f, v⟩ := p
  have hb := (Below.refl w.heap.size w).alloc (Nat.le_refl _) (.cells #[.int .i64 q, .int .i64 k, .int .i64 f, .int .i64 v] 23)
  have b1 := Blk.new w 23 #[.int .i64 q, .int .i64 k, .int .i64 f, .int .i64 v]
  show Calls Try.prog _ #[.agg #[.int .i64 q, .int .i64 k, .int .i64 f, .int .i64 v], .int .u16 (a : Int), .int .u32 (m : Int)] w _
  go_enter Try.func4, Try.ntmps4
  go_upto_region 1 with fail
  generalize w.alloc (.cells #[.int .i64 q, .int .i64 k, .int .i64 f, .int .i64 v] 23) = w1 at hb b1 ⊢
  have p0 : w1.cell? ⟨w.heap.size, 0, none⟩ = some (.int .i64 q) := b1.cell 0
  have p1 : w1.cell? ⟨w.heap.size, 1, none⟩ = some (.int .i64 k) := b1.cell 1
  have p2 : w1.cell? ⟨w.heap.size, 2, none⟩ = some (.int .i64 f) := b1.cell 2
  have p3 : w1.cell? ⟨w.heap.size, 3, none⟩ = some (.int .i64 v) := b1.cell 3
  go_wp2_with fail
  refine (of_any (p := ⟨q, k, f, v⟩)).mono ?_
  rintro e w2 ⟨rfl, hb2⟩
  have hB2 := hb.trans (hb2.mono hb.size)
  go_wp2_with fail
  refine (pack_any (p := ⟨q, k, f, v⟩) hp).mono ?_
  rintro e w3 ⟨v3, rfl, hown3, hb3⟩
  have hB3 := hB2.trans (hb3.mono hB2.size)
  clear p0 p1 p2 p3 b1
  cases hm : mayP ⟨q, k, f, v⟩ with
  | false =>
    have HR : Hid (packR ⟨q, k, f, v⟩ = ([], 2)) := by unfold Hid; rw [HPR.out, if_neg (by rw [hm]; exact Bool.false_ne_true)]
    rw [HR.out]
    go_wp2_with fail
    refine (works_any _).mono ?_
    rintro e w10 ⟨rfl, hb10⟩
    go_wp2_with fail
    go_ret
    exact ⟨rfl, hB3.trans (hb10.mono hB3.size)⟩
  | true =>
    have HR : Hid (packR ⟨q, k, f, v⟩ = (packB ⟨q, k, f, v⟩, 0)) := by unfold Hid; rw [HPR.out, if_pos hm]
    rw [HR.out] at hown3 ⊢
    simp only at hown3
    clear HPR HR hm
    generalize packB ⟨q, k, f, v⟩ = l at hXl hown3 HBT ⊢
    obtain ⟨A, c, rfl, hl, -⟩ := SlB.of_own hown3
    obtain ⟨n, hnl⟩ : ∃ n, n = l.length := ⟨_, rfl⟩
    rw [← hnl] at hXl hl HBT ⊢
    have hll : l.length = n := hnl.symm
    clear hnl
    clear hown3
    have h2' : ((n : Int) == 0) = false := by simp; omega
    obtain ⟨i0, hi0, hz0, hz1, hz2⟩ := info_parts u8_info
    have hown0 := own_lit0 w3 5 1
    have hb0 := (Below.refl w3.heap.size w3).alloc (Nat.le_refl _) (.cells #[] 5)
    have hl0 := hl.keep hb0
    obtain ⟨b, o, rfl, hbl, hc0⟩ := hl0.1.at_ (by omega)
    have h3 : n ≤ 2000 := by omega
    go_wp2_with (at_builtin; refine wpList_append_own_at _ (by rfl) _ _ 24 (by rfl) w3.heap.size 5 i0 _ 1 1 Try.underlying24 hi0 hz0 hz1 hz2 rfl (by decide) _ 0 _ (by rfl) hown0 ⟨b, o, none⟩ n c (l.map bv) (by rfl) (by simp; omega) (fun j u hu => by rw [add_none]; exact hc0 j u hu) (bv_one l) (by unfold maxLen; omega) (by omega) (by simp) ?_; intro v' w4 hown1 hg1 hnil1 hat1)
    obtain ⟨hnl2, hown⟩ := hown1
    rcases hown with ⟨_, hz⟩ | ⟨g, cap, cur, rfl, hbg, hgh, hnc, hcm, hcs, hct⟩
    · omega
    rw [Nat.zero_add, Nat.mul_one, List.nil_append] at hct
    have hb4 : Below w3.heap.size w3 w4 := hb0.grown hg1 (by simp) (fun k e => by cases e; exact Nat.le_refl _)
    have hsz4 := hb4.size
    have hgl : g < w4.heap.size := (Array.getElem?_eq_some_iff.1 hgh).1
    have hwf : (a : Int) % (8 * (n : Int)) = ((a % (8 * n) : Nat) : Int) := by simp
    have hf : a % (8 * n) < 8 * n := Nat.mod_lt _ (by omega)
    rw [hwf]
    generalize a % (8 * n) = fr at hf ⊢
    clear hwf hg1 hnil1 hat1 hown0 hc0
    rw [Nat.zero_add] at hnc
    simp only [Nat.mul_one] at hcs
    simp only [Nat.zero_add]
    go_loopw [11, 12] (fun s i wr => ∃ (k B : Nat) (lk : List UInt8) (cu : Array Value), k ≤ 32 ∧ i = .int .i64 k ∧ s = .bool (decide (B ≠ 0)) ∧ B < 2 ^ k ∧ turned l lk fr B ∧ Blk wr g 5 cu ∧ cu.size = cap ∧ cu.toList.take n = lk.map bv ∧ Below w3.heap.size w3 wr) (fun _ i _ => 32 - (intOf i).toNat)
    case atStart => exact ⟨0, 0, l, cur, by omega, rfl, rfl, by decide, turned_refl l fr, hgh, hcs, hct, hb4⟩
    case round =>
      obtain ⟨k, B, lk, cu, hk, rfl, rfl, hB, htn, hbk, hcs2, hct2, hbw⟩ := hrel
      by_cases hgo : k < 32 ∧ (fr : Int) + k < 8 * n
      · obtain ⟨hlt, hin⟩ := hgo
        · have hlt' : decide ((k : Int) < 32) = true := by simp; omega
          by_cases hbt : ((m : Int) / 2 ^ k).tmod 2 = 1
          · have hbt' : (((m : Int) / 2 ^ k).tmod 2 == 1) = true := by simpa using hbt
            clear hbt
            have hi : (fr + k) / 8 < n := by omega
            have hc1 : wr.cell? ⟨g, (fr + k) / 8, none⟩ = some (.int .u8 ((atB lk ((fr + k) / 8)).toNat : Int)) := by
              rw [hbk.cell]
              have h1 : cu.toList[(fr + k) / 8]? = some (bv (atB lk ((fr + k) / 8))) := by
                have h2 := congrArg (fun z => z[(fr + k) / 8]?) hct2
                simp only [List.getElem?_take, if_pos hi, List.getElem?_map] at h2
                rw [h2, List.getElem?_eq_getElem (show (fr + k) / 8 < lk.length by rw [htn.1]; omega), atB_lt (show (fr + k) / 8 < lk.length by rw [htn.1]; omega)]
                rfl
              simpa [bv] using h1
            have hfz : wr.frozen? ⟨g, (fr + k) / 8, none⟩ = false := hbk.frozen _
            go_wp2_with fail
            obtain ⟨y, hy, hy2⟩ := turn_u8 (atB lk ((fr + k) / 8)) ((fr + k) % 8) (Nat.mod_lt _ (by decide))
            rw [hy2]
            exact ⟨⟨k + 1, B ^^^ 2 ^ k, lk.set ((fr + k) / 8) y, cu.setIfInBounds ((fr + k) / 8) (bv y), by omega, by go_num, by rw [decide_eq_true (more_ne hB)], more_lt hB, turned_more htn (by omega) hy, hbk.set_ _ _, by simp [hcs2], row_set hct2 y, hbw.setCell hbg _⟩, by simp [intOf]; omega⟩
          · have hbt' : (((m : Int) / 2 ^ k).tmod 2 == 1) = false := by simpa using hbt
            clear hbt
            have hB2 : B < 2 ^ (k + 1) := Nat.lt_of_lt_of_le hB (Nat.pow_le_pow_right (by decide) (by omega))
            go_wp2_with fail
            exact ⟨⟨k + 1, B, lk, cu, by omega, by go_num, rfl, hB2, htn, hbk, hcs2, hct2, hbw⟩, by simp [intOf]; omega⟩
      · have hB2 : B < 4294967296 := Nat.lt_of_lt_of_le hB (show 2 ^ k ≤ 2 ^ 32 from Nat.pow_le_pow_right (by decide) hk)
        have HC := Lib.hid (HBT.out lk fr B htn (by omega) hB2)
        have hs1 := SlB.of_row hbk (by rw [htn.1]; exact hll) hnc hcm hct2
        clear htn hct2 hB HBT
        have hend : (k < 32 ∧ decide ((k : Int) < 32) = true ∧ decide ((fr : Int) + k < 8 * n) = false) ∨ decide ((k : Int) < 32) = false := by
          by_cases hlt : k < 32
          · exact .inl ⟨hlt, by simp; omega, by simp; omega⟩
          · exact .inr (by simp; omega)
        clear hgo
        have hB4 := hB3.trans (hbw.mono hB3.size)
        rcases hend with ⟨hk1, hk2, hk3⟩ | hk2
        all_goals
          go_wp2_with fail
          refine (take_any' hs1 (by omega)).mono ?_
          rintro e w5 ⟨rfl, hb5⟩
          have hB5 := hB4.trans (hb5.mono hB4.size)
          generalize takeP lk = T at HC ⊢
          obtain ⟨⟨q1, q2, q3, q4⟩, tn, te⟩ := T
          simp only [Pk.val]
          have hb6 := (Below.refl w5.heap.size w5).alloc (Nat.le_refl _) (.cells #[.int .i64 q1, .int .i64 q2, .int .i64 q3, .int .i64 q4] 29)
          go_upto_region 16 with fail
          generalize w5.alloc (.cells #[.int .i64 q1, .int .i64 q2, .int .i64 q3, .int .i64 q4] 29) = w6 at hb6 ⊢
          have hB6 := hB5.trans (hb6.mono hB5.size)
          have hcase : (B = 0) ∨ (B ≠ 0 ∧ (te != 0) = true) ∨ (B ≠ 0 ∧ (te != 0) = false ∧ ((tn : Int) != (n : Int)) = true) := by
            by_cases h0 : B = 0
            · exact .inl h0
            · by_cases he : te = 0
              · have := HC.out h0 he
                have h5 : ((tn : Int) != (n : Int)) = true := by simp only at this; simp; omega
                exact .inr (.inr ⟨h0, by simpa using he, h5⟩)
              · exact .inr (.inl ⟨h0, by simpa using he⟩)
          clear HC
          rcases hcase with h0 | ⟨h0, he⟩ | ⟨h0, he, hn5⟩
          all_goals
            go_wp2_with fail
            refine (works_any _).mono ?_
            rintro e w7 ⟨rfl, hb7⟩
            go_wp2_with fail
            go_ret
            exact ⟨rfl, hB6.trans (hb7.mono hB6.size)⟩
end Go.Proofs.Ytolohbgfhledoaa
