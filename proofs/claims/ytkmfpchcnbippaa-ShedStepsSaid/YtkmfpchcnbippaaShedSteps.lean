/- The law ShedSteps returns true whatever the input. -/
import Derived.Test.YtkmfpchcnbippaaShedWorks
import Derived.Deep.DeepCutAuto
namespace Go.Proofs.Ytkmfpchcnbippaa
open Go.RowKit

set_option maxRecDepth 100000 in
theorem shedSteps_law {w : World} {A : Option Addr} {n c : Nat} {ds : List Int} {B : Option Addr} {m d : Nat} {us : List Int} {R : Option Addr} {r q : Nat} {rs : List Int} (hd : SlI w A n c ds) (hu : SlI w B m d us) (hr : SlI w R r q rs) :
    Calls Try.prog 3 #[.agg #[.slice A n c, .slice B m d], .slice R r q] w fun e w' => e = .returned (.bool true) ∧ Below w.heap.size w w' := by
  have hn := hd.len
  have hm := hu.len
  have hq := hr.len
  have b1 := Blk.new w 24 #[.slice A n c, .slice B m d]
  have hb := (Below.refl w.heap.size w).alloc (Nat.le_refl _) (.cells #[.slice A n c, .slice B m d] 24)
  by_cases h1 : (100 : Int) < n
  · go_enter Try.func3, Try.ntmps3
    go_wp2_with fail
    refine (works_any _).mono ?_
    rintro e w2 ⟨rfl, hb2⟩
    go_wp2_with fail
    go_ret
    exact ⟨rfl, hb.trans (hb2.mono hb.size)⟩
  have h1' : decide ((100 : Int) < n) = false := by simpa using h1
  by_cases h2 : (100 : Int) < m
  · go_enter Try.func3, Try.ntmps3
    go_wp2_with fail
    refine (works_any _).mono ?_
    rintro e w2 ⟨rfl, hb2⟩
    go_wp2_with fail
    go_ret
    exact ⟨rfl, hb.trans (hb2.mono hb.size)⟩
  have h2' : decide ((100 : Int) < m) = false := by simpa using h2
  by_cases h3 : (300 : Int) < r
  · go_enter Try.func3, Try.ntmps3
    go_wp2_with fail
    refine (works_any _).mono ?_
    rintro e w2 ⟨rfl, hb2⟩
    go_wp2_with fail
    go_ret
    exact ⟨rfl, hb.trans (hb2.mono hb.size)⟩
  have h3' : decide ((300 : Int) < r) = false := by simpa using h3
  go_enter Try.func3, Try.ntmps3
  go_wp2_with fail
  generalize w.alloc (.cells #[.slice A n c, .slice B m d] 24) = w1 at b1 hb ⊢
  refine (levels_any (hd.keep hb) (hu.keep hb) (hr.keep hb) (by omega)).mono ?_
  rintro e w2 ⟨v, rfl, hown, hb2⟩
  obtain ⟨V, cv, rfl, hs, -⟩ := SlI.of_own hown (levelsS_rng _ _ _ _ (by rw [hd.2.1]; exact hn))
  have b2 := b1.keep hb2
  replace hb : Below w.heap.size w w2 := hb.trans (hb2.mono hb.size)
  have hrr : ((r : Int) != r) = false := by simp
  have hn100 : n ≤ 100 := by omega
  have hm100 : m ≤ 100 := by omega
  clear h1 h1' h2 h2' h3 h3' hb2 b1 hown
  have c0 : w2.cell? ⟨w.heap.size, 0, none⟩ = some (.slice A n c) := b2.cell 0
  have c1 : w2.cell? ⟨w.heap.size, 1, none⟩ = some (.slice B m d) := b2.cell 1
  have hll := hd.2.1
  have hlu := hu.2.1
  go_wp2_with fail
  go_loopw [6, 7] (fun v i wr => ∃ k : Nat, k ≤ r ∧ i = .int .i64 k ∧ v = .int .i64 (lvlAt ds us rs k) ∧ ∃ q, wr = w2.drewN q) (fun _ i _ => r - (intOf i).toNat)
  case atStart => exact ⟨0, by omega, rfl, rfl, 0, rfl⟩
  case round =>
    obtain ⟨k, hk, rfl, rfl, q, rfl⟩ := hrel
    by_cases hlt : k < r
    · obtain ⟨bv, ov, rfl, hbv, hcv⟩ := hs.at_ hlt
      rw [levelsS_getD ds us rs r k hlt] at hcv
      obtain ⟨br, or, rfl, hbr, hcr⟩ := (hr.keep hb).at_ hlt
      have bd0 := lvlAt_bd ds us rs k
      have bd1 := lvlAt_bd ds us rs (k + 1)
      have hstep : lvlAt ds us rs (k + 1) = nextS ds us (lvlAt ds us rs k) (at0 rs k) := rfl
      generalize lvlAt ds us rs (k + 1) = y at bd1 hstep hcv ⊢
      have hfin : Hid (y = lvlAt ds us rs (k + 1)) := hstep
      generalize lvlAt ds us rs k = x at bd0 hstep ⊢
      generalize at0 rs k = rd at hstep hcr
      have fin : ∀ (Z : World), (∃ q', Z = w2.drewN q') → True := fun _ _ => trivial
      clear fin
      have t1 : decide (y < 0) = false := by simp; omega
      have t2 : decide ((n : Int) < y) = false := by simp; omega
      cases hlo : low ds x rd
      · cases hhi : high us x rd
        · have hy : y = x := by rw [hstep]; unfold nextS; rw [hlo, hhi]; simp
          clear hstep hlo hhi
          subst hy
          have t3 : decide (y + 1 < y) = false := by simp; omega
          have t4 : decide (y < y - 1) = false := by simp; omega
          have t5 : (y == y + 1) = false := by simp; omega
          have t6 : (y == y - 1) = false := by simp; omega
          have r1 : IntKind.i64.wrap (y + 1) = y + 1 := IntWalk.i64_in _ (by omega)
          have r2 : IntKind.i64.wrap (y - 1) = y - 1 := IntWalk.i64_in _ (by omega)
          clear hll hlu
          go_wp2_with fail
          go_quiet (fail)
          go_wp2_with fail
          exact ⟨⟨k + 1, by omega, by go_num, by rw [hfin.out], _, rfl⟩, by simp [intOf]; omega⟩
        · have hy : y = x - 1 := by rw [hstep]; unfold nextS; rw [hlo, hhi]; simp
          clear hstep hlo
          obtain rfl : x = y + 1 := by omega
          have hh : 0 ≤ y ∧ y < m ∧ at0 us y.toNat ≤ rd := by
            unfold high at hhi
            simp at hhi
            refine ⟨by omega, by omega, ?_⟩
            have := hhi.2
            rwa [show (y + 1).toNat - 1 = y.toNat by omega] at this
          obtain ⟨g0, g1, g2⟩ := hh
          obtain ⟨bu, ou, rfl, hbu, hcu⟩ := (hu.keep hb).at_ (k := y.toNat) (by omega)
          clear hhi hy
          have t3 : decide (y + 1 + 1 < y) = false := by simp; omega
          have t4 : decide (y < y + 1 - 1) = false := by simp
          have t5 : (y == y + 1 + 1) = false := by simp; omega
          have t6 : (y == y + 1 - 1) = true := by simp
          have t7 : decide ((m : Int) ≤ y) = false := by simp; omega
          have t8 : decide (rd < at0 us y.toNat) = false := by simp; omega
          have r1 : IntKind.i64.wrap (y + 1 + 1) = y + 1 + 1 := IntWalk.i64_in _ (by omega)
          have r2 : IntKind.i64.wrap (y + 1 - 1) = y := by rw [show y + 1 - 1 = y by omega]; exact IntWalk.i64_in _ (by omega)
          clear hll hlu
          go_wp2_with fail
          go_quiet (fail)
          go_wp2_with fail
          exact ⟨⟨k + 1, by omega, by go_num, by rw [hfin.out], _, rfl⟩, by simp [intOf]; omega⟩
      · have hy : y = x + 1 := by rw [hstep]; unfold nextS; rw [hlo]; simp
        clear hstep
        subst hy
        have hh : 0 ≤ x ∧ x < n ∧ rd < at0 ds x.toNat := by
          unfold low at hlo
          simp at hlo
          omega
        obtain ⟨g0, g1, g2⟩ := hh
        obtain ⟨bu, ou, rfl, hbu, hcu⟩ := (hd.keep hb).at_ (k := x.toNat) (by omega)
        clear hlo
        have t3 : decide (x + 1 < x + 1) = false := by simp
        have t4 : decide (x + 1 < x - 1) = false := by simp; omega
        have t5 : (x + 1 == x + 1) = true := by simp
        have t6 : (x + 1 == x - 1) = false := by simp; omega
        have t8 : decide (at0 ds x.toNat ≤ rd) = false := by simp; omega
        have r1 : IntKind.i64.wrap (x + 1) = x + 1 := IntWalk.i64_in _ (by omega)
        have r2 : IntKind.i64.wrap (x - 1) = x - 1 := IntWalk.i64_in _ (by omega)
        clear hll hlu
        go_wp2_with fail
        go_quiet (fail)
        go_wp2_with fail
        exact ⟨⟨k + 1, by omega, by go_num, by rw [hfin.out], _, rfl⟩, by simp [intOf]; omega⟩
    · go_wp2_with fail
      refine (works_any _).mono ?_
      rintro e w4 ⟨rfl, hb4⟩
      go_wp2_with fail
      go_ret
      exact ⟨rfl, hb.trans ((below_drewN (Below.refl _ _) q).trans (hb4.mono (by simpa using hb.size)))⟩
end Go.Proofs.Ytkmfpchcnbippaa
