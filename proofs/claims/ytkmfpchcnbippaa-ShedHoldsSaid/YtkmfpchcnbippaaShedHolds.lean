/- The law ShedHolds returns true whatever the input. -/
import Derived.Test.YtkmfpchcnbippaaShedWorks
import Derived.Deep.DeepCutAuto
namespace Go.Proofs.Ytkmfpchcnbippaa
open Go.RowKit
theorem bool_eq {a b : Bool} (h : a = b) : Value.bool a = Value.bool b := by rw [h]

set_option maxRecDepth 100000 in
theorem shedHolds_law {w : World} {A : Option Addr} {n c : Nat} {ds : List Int} {B : Option Addr} {m d : Nat} {us : List Int} (hd : SlI w A n c ds) (hu : SlI w B m d us) (lv rd : Int) (hlv : i64 lv) (nn : Int) (hnn : 0 ≤ nn ∧ nn ≤ 255) :
    Calls Try.prog 5 #[.agg #[.slice A n c, .slice B m d, .int .i64 lv, .int .i64 rd], .int .u8 nn] w fun e w' => e = .returned (.bool true) ∧ Below w.heap.size w w' := by
  have hn := hd.len
  have hm := hu.len
  unfold i64 at hlv
  have b1 := Blk.new w 33 #[.slice A n c, .slice B m d, .int .i64 lv, .int .i64 rd]
  have hb := (Below.refl w.heap.size w).alloc (Nat.le_refl _) (.cells #[.slice A n c, .slice B m d, .int .i64 lv, .int .i64 rd] 33)
  have hsz : w.heap.size + 1 ≤ (w.alloc (.cells #[.slice A n c, .slice B m d, .int .i64 lv, .int .i64 rd] 33)).heap.size := by simp
  go_enter Try.func5, Try.ntmps5
  go_upto_region 1 with fail
  generalize (w.alloc (.cells #[.slice A n c, .slice B m d, .int .i64 lv, .int .i64 rd] 33)) = w1 at b1 hb hsz ⊢
  have c0 : w1.cell? ⟨w.heap.size, 0, none⟩ = some (.slice A n c) := b1.cell 0
  have c1 : w1.cell? ⟨w.heap.size, 1, none⟩ = some (.slice B m d) := b1.cell 1
  have c2 : w1.cell? ⟨w.heap.size, 2, none⟩ = some (.int .i64 lv) := b1.cell 2
  have c3 : w1.cell? ⟨w.heap.size, 3, none⟩ = some (.int .i64 rd) := b1.cell 3
  have l0 : w.heap.size < w1.heap.size := by omega
  refine wp_region_at (fun _ => False) [6, 0] (by kernel_rfl) (by kernel_rfl) ?_
  simp only [wpSegs, List.take, List.drop]
  repeat (go_big_quiet_step (fail))
  refine wpQuiet_nil (wpHead_want rfl (fun K' hK' => ?_))
  go_wp2_with fail
  refine hK' _ _ rfl (fr_graft ((Fr.drew (Fr.refl _ _)).alloc _)) ?_
  refine wpQuiet_nil (wpHead_want rfl (fun K' hK' => ?_))
  go_wp2_with fail
  refine hK' _ _ rfl (fr_graft ?_) ?_
  · exact ((Fr.refl _ w1).alloc _).drew
  have hb2 : Below w1.heap.size w1 ((w1.alloc (.cells #[.slice A n c, .slice B m d] 24)).drew) := ((Below.refl _ w1).alloc (Nat.le_refl _) _).drew
  have b2 : Blk ((w1.alloc (.cells #[.slice A n c, .slice B m d] 24)).drew) w1.heap.size 24 #[.slice A n c, .slice B m d] := Blk.new _ _ _
  generalize (w1.alloc (.cells #[.slice A n c, .slice B m d] 24)).drew = w2 at hb2 b2 ⊢
  repeat (go_big_quiet_step (fail))
  refine wpQuiet_nil ?_
  replace hb : Below w.heap.size w w2 := hb.trans (hb2.mono hb.size)
  have hd2 := hd.keep hb
  have hu2 := hu.keep hb
  clear c0 c1 c2 c3 b1
  have c0 : w2.cell? ⟨w1.heap.size, 0, none⟩ = some (.slice A n c) := b2.cell 0
  have c1 : w2.cell? ⟨w1.heap.size, 1, none⟩ = some (.slice B m d) := b2.cell 1
  go_upto_region 2 with fail
  go_cut [36] (fun v wx => v = .bool (decide (100 < n ∨ 100 < m ∨ lv < 0 ∨ n < lv)) ∧ w2 = wx)
  case first =>
    by_cases h1 : (100 : Int) < n
    · go_wp2_with fail
      go_meet
      case rel => exact ⟨bool_eq (decide_eq_true (by omega)).symm, rfl⟩
    · have h1' : decide ((100 : Int) < n) = false := by simpa using h1
      by_cases h2 : (100 : Int) < m
      · go_wp2_with fail
        go_meet
        case rel => exact ⟨bool_eq (decide_eq_true (by omega)).symm, rfl⟩
      · have h2' : decide ((100 : Int) < m) = false := by simpa using h2
        by_cases h3 : lv < 0
        · go_wp2_with fail
          go_meet
          case rel => exact ⟨bool_eq (decide_eq_true (by omega)).symm, rfl⟩
        · have h3' : decide (lv < 0) = false := by simpa using h3
          by_cases h4 : (n : Int) < lv
          · go_wp2_with fail
            go_meet
            case rel => exact ⟨bool_eq (decide_eq_true (by omega)).symm, rfl⟩
          · have h4' : decide ((n : Int) < lv) = false := by simpa using h4
            go_wp2_with fail
            go_meet
            case rel => exact ⟨bool_eq (decide_eq_false (by omega)).symm, rfl⟩
  case rest =>
    obtain ⟨rfl, rfl⟩ := hcut
    by_cases hbig : 100 < n ∨ 100 < m ∨ lv < 0 ∨ n < lv
    · have hbig' : decide (100 < n ∨ 100 < m ∨ lv < 0 ∨ n < lv) = true := decide_eq_true hbig
      rw [hbig']
      clear hbig'
      go_wp2_with fail
      refine (works_any _).mono ?_
      rintro e w3 ⟨rfl, hb3⟩
      go_wp2_with fail
      go_ret
      exact ⟨rfl, hb.trans (hb3.mono hb.size)⟩
    · have hbig' : decide (100 < n ∨ 100 < m ∨ lv < 0 ∨ n < lv) = false := decide_eq_false hbig
      rw [hbig']
      clear hbig'
      go_upto_region 4 with fail
      go_cut [72] (fun v wx => v = .bool (low ds lv rd || high us lv rd) ∧ w2 = wx)
      case first =>
        have hll := hd.2.1
        have hlu := hu.2.1
        have hl0 : 0 ≤ lv := by omega
        have HB := Lib.hid hbig
        clear hbig
        have highs : ∀ (lo : Bool), low ds lv rd = lo → (lv < 1 ∨ (m : Int) < lv ∨ (1 ≤ lv ∧ lv ≤ m)) := by intro lo _; omega
        have hh := highs _ rfl
        clear highs
        by_cases h1 : lv < n
        · obtain ⟨b, o, rfl, hb', hck⟩ := hd2.at_ (k := lv.toNat) (by omega)
          by_cases h2 : rd < at0 ds lv.toNat
          · have HX : Hid ((low ds lv rd || high us lv rd) = true) := by
              unfold Hid low; simp; omega
            clear hll hlu hh
            go_wp2_with fail
            go_meet
            case rel => exact ⟨bool_eq HX.out.symm, rfl⟩
          · have hlo : low ds lv rd = false := by unfold low; simp; omega
            have h2' : decide (rd < at0 ds lv.toNat) = false := by simpa using h2
            rcases hh with h3 | h3 | ⟨h3, h4⟩
            · have HX : Hid ((low ds lv rd || high us lv rd) = false) := by
                unfold Hid; rw [hlo]; unfold high; simp; omega
              have h3' : decide (0 < lv) = false := by simp; omega
              clear hlo hll hlu
              go_wp2_with fail
              go_meet
              case rel => exact ⟨bool_eq HX.out.symm, rfl⟩
            · have HX : Hid ((low ds lv rd || high us lv rd) = false) := by
                unfold Hid; rw [hlo]; unfold high; simp; omega
              have h3' : 0 < lv := by omega
              have h4' : decide (lv ≤ m) = false := by simp; omega
              clear hlo hll hlu
              go_wp2_with fail
              go_meet
              case rel => exact ⟨bool_eq HX.out.symm, rfl⟩
            · obtain ⟨b', o', rfl, hb'', hck'⟩ := hu2.at_ (k := lv.toNat - 1) (by omega)
              have h3' : 0 < lv := by omega
              have h4' : lv - 1 < m := by omega
              by_cases h5 : at0 us (lv.toNat - 1) ≤ rd
              · have HX : Hid ((low ds lv rd || high us lv rd) = true) := by
                  unfold Hid; rw [hlo]; unfold high; simp; omega
                clear hlo hll hlu
                go_wp2_with fail
                go_meet
                case rel => exact ⟨bool_eq HX.out.symm, rfl⟩
              · have HX : Hid ((low ds lv rd || high us lv rd) = false) := by
                  unfold Hid; rw [hlo]; unfold high; simp; omega
                have h5' : decide (at0 us (lv.toNat - 1) ≤ rd) = false := by simpa using h5
                clear hlo hll hlu
                go_wp2_with fail
                go_meet
                case rel => exact ⟨bool_eq HX.out.symm, rfl⟩
        · have h1' : decide (lv < n) = false := by simpa using h1
          have hlo : low ds lv rd = false := by unfold low; simp; omega
          rcases hh with h3 | h3 | ⟨h3, h4⟩
          · have HX : Hid ((low ds lv rd || high us lv rd) = false) := by
              unfold Hid; rw [hlo]; unfold high; simp; omega
            have h3' : decide (0 < lv) = false := by simp; omega
            clear hlo hll hlu
            go_wp2_with fail
            go_meet
            case rel => exact ⟨bool_eq HX.out.symm, rfl⟩
          · have HX : Hid ((low ds lv rd || high us lv rd) = false) := by
              unfold Hid; rw [hlo]; unfold high; simp; omega
            have h3' : 0 < lv := by omega
            have h4' : decide (lv ≤ m) = false := by simp; omega
            clear hlo hll hlu
            go_wp2_with fail
            go_meet
            case rel => exact ⟨bool_eq HX.out.symm, rfl⟩
          · obtain ⟨b', o', rfl, hb'', hck'⟩ := hu2.at_ (k := lv.toNat - 1) (by omega)
            have h3' : 0 < lv := by omega
            have h4' : lv - 1 < m := by omega
            by_cases h5 : at0 us (lv.toNat - 1) ≤ rd
            · have HX : Hid ((low ds lv rd || high us lv rd) = true) := by
                unfold Hid; rw [hlo]; unfold high; simp; omega
              clear hlo hll hlu
              go_wp2_with fail
              go_meet
              case rel => exact ⟨bool_eq HX.out.symm, rfl⟩
            · have HX : Hid ((low ds lv rd || high us lv rd) = false) := by
                unfold Hid; rw [hlo]; unfold high; simp; omega
              have h5' : decide (at0 us (lv.toNat - 1) ≤ rd) = false := by simpa using h5
              clear hlo hll hlu
              go_wp2_with fail
              go_meet
              case rel => exact ⟨bool_eq HX.out.symm, rfl⟩
      case rest =>
        obtain ⟨rfl, rfl⟩ := hcut
        cases hx : (low ds lv rd || high us lv rd)
        · have hnext : nextS ds us lv rd = lv := by
            simp only [Bool.or_eq_false_iff] at hx
            unfold nextS; rw [hx.1, hx.2]; simp
          have HN := Lib.hid hnext
          have HX := Lib.hid hx
          clear hnext hx
          go_wp2_with fail
          go_loopw [8, 9] (fun v i wr => ∃ k : Nat, (k : Int) ≤ nn ∧ i = .int .i64 k ∧ v = .int .i64 lv ∧ Blk wr w1.heap.size 24 #[.slice A n c, .slice B m d] ∧ Below w.heap.size w wr ∧ w1.heap.size < wr.heap.size) (fun _ i _ => (nn - intOf i).toNat)
          case atStart => exact ⟨0, by omega, rfl, rfl, b2, hb, b2.lt⟩
          case round =>
            obtain ⟨k, hk, rfl, rfl, bk, hbw, hlt2⟩ := hrel
            clear c0 c1
            have c0 : wr.cell? ⟨w1.heap.size, 0, none⟩ = some (.slice A n c) := bk.cell 0
            have c1 : wr.cell? ⟨w1.heap.size, 1, none⟩ = some (.slice B m d) := bk.cell 1
            by_cases hlt : (k : Int) < nn
            · go_wp2_with fail
              refine (next_any (hd.keep hbw) (hu.keep hbw) lv rd hlv).mono ?_
              rintro e w4 ⟨rfl, hb4⟩
              rw [HN.out]
              go_wp2_with fail
              exact ⟨⟨k + 1, by omega, by go_num, rfl, bk.keep hb4, hbw.trans (hb4.mono hbw.size), by have := hb4.size; omega⟩, by simp [intOf]; omega⟩
            · go_wp2_with fail
              refine (works_any _).mono ?_
              rintro e w4 ⟨rfl, hb4⟩
              go_wp2_with fail
              go_ret
              exact ⟨rfl, hbw.trans (hb4.mono hbw.size)⟩
        · clear hx
          go_wp2_with fail
          refine (works_any _).mono ?_
          rintro e w3 ⟨rfl, hb3⟩
          go_wp2_with fail
          go_ret
          exact ⟨rfl, hb.trans (hb3.mono hb.size)⟩
end Go.Proofs.Ytkmfpchcnbippaa
