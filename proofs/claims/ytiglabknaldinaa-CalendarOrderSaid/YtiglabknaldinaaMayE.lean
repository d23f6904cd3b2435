/- The document's May: Shed and Channel return something. -/
import Derived.Test.YtiglabknaldinaaMayD
import Derived.Test.YtiglabknaldinaaMixC
import Derived.Laws.StructEq
namespace Go.Proofs.Ytiglabknaldinaa
open Go.RowKit
set_option maxRecDepth 100000 in
set_option maxHeartbeats 12800000 in
theorem shed_any {w : World} {x : Sd} (hx : rdSd.ok w x) : Calls Try.prog 29 #[.agg #[.slice x.down.A x.down.l.length x.down.c, .slice x.up.A x.up.l.length x.up.c]] w (TupP w) := by
  have n0 := hx.1.1.len_le
  have n1 := hx.2.1.len_le
  have hb1 := (Below.refl w.heap.size w).alloc (Nat.le_refl _) (.cells #[.slice x.down.A x.down.l.length x.down.c, .slice x.up.A x.up.l.length x.up.c] 31)
  have k1 := Blk.new w 31 #[.slice x.down.A x.down.l.length x.down.c, .slice x.up.A x.up.l.length x.up.c]
  go_enter Try.func29, Try.ntmps29
  go_upto_region 1 with fail
  generalize w.alloc (.cells #[.slice x.down.A x.down.l.length x.down.c, .slice x.up.A x.up.l.length x.up.c] 31) = w1 at hb1 k1 ⊢
  obtain ⟨gx, hgx⟩ : ∃ gx, gx = w.heap.size := ⟨_, rfl⟩
  rw [← hgx] at k1 ⊢
  clear hgx
  have lx := k1.lt
  have c0 : w1.cell? ⟨gx, 0, none⟩ = some (.slice x.down.A x.down.l.length x.down.c) := k1.cell 0
  have c1 : w1.cell? ⟨gx, 1, none⟩ = some (.slice x.up.A x.up.l.length x.up.c) := k1.cell 1
  by_cases q1 : x.down.l.length = x.up.l.length
  rotate_left
  · have q1' : ((x.down.l.length : Int) != x.up.l.length) = true := by simp; omega
    clear q1
    go_wp2_with fail
    go_ret2
    exact TupP.mk _ _ rfl hb1
  have q1' : ((x.down.l.length : Int) != x.up.l.length) = false := by rw [q1]; simp
  have HQ := Lib.hid q1
  clear q1
  by_cases q2 : (4 : Int) < x.down.l.length
  · have q2' : decide ((4 : Int) < x.down.l.length) = true := decide_eq_true q2
    clear q2
    go_wp2_with fail
    go_ret2
    exact TupP.mk _ _ rfl hb1
  have q2' : decide ((4 : Int) < x.down.l.length) = false := by simpa using q2
  clear q2
  go_wp2_with fail
  clear c0 c1 lx
  go_loopw [4] (fun i wr => ∃ (k : Nat), k ≤ x.down.l.length ∧ i = .int .i64 (k : Int) ∧ Below w1.heap.size w1 wr) (fun i _ => x.down.l.length - (intOf i).toNat)
  case atStart => exact ⟨0, Nat.zero_le _, rfl, Below.refl _ _⟩
  case round =>
    obtain ⟨k, hk, rfl, hbw⟩ := hrel
    obtain ⟨wa, hwa⟩ : ∃ w : World, w = wr := ⟨_, rfl⟩
    subst hwa
    have ka := k1.keep hbw
    have hBa := hb1.trans (hbw.mono hb1.size)
    have lx := ka.lt
    by_cases hlt : k < x.down.l.length
    · have c0 : wa.cell? ⟨gx, 0, none⟩ = some (.slice x.down.A x.down.l.length x.down.c) := ka.cell 0
      have c1 : wa.cell? ⟨gx, 1, none⟩ = some (.slice x.up.A x.up.l.length x.up.c) := ka.cell 1
      have hu : k < x.up.l.length := by rw [← HQ.out]; exact hlt
      have hsd : SlI wa x.down.A x.down.l.length x.down.c x.down.l := SlI.keep hx.1 hBa
      have hsu : SlI wa x.up.A x.up.l.length x.up.c x.up.l := SlI.keep hx.2 hBa
      obtain ⟨sb, so, hA, hsb, s0⟩ := hsd.at_ hlt
      obtain ⟨tb, to_, hB, htb, t0⟩ := hsu.at_ hu
      have HA := Lib.hid hA
      have HB := Lib.hid hB
      rw [hA] at c0
      rw [hB] at c1
      clear hA hB
      generalize at0 x.down.l k = y at s0
      generalize at0 x.up.l k = z at t0
      obtain ⟨r1, h1⟩ := out_is y 0 1000000
      obtain ⟨r2, h2⟩ := out_is z 0 1000000
      have HC1 := fun m => h1 (wa.drewN m)
      have HC2 := fun m => h2 (wa.drewN m)
      clear h1 h2
      have hkz : (0 : Int) ≤ k := by omega
      have hk1 : (k : Int) < x.down.l.length := by omega
      have hk2 : (k : Int) < x.up.l.length := by omega
      go_wp2_with fail
      cases r1 with
      | true =>
        go_quiet ((go_at_call 24; first | (with_reducible exact Calls.quiet_of_same (HC1 _)) | (with_reducible exact Calls.quiet_of_same (HC2 _))))
        rename_i nq
        go_wp2_with fail
        go_ret2
        exact TupP.mk _ _ rfl (below_drewN hBa nq)
      | false =>
        cases r2 with
        | true =>
          go_quiet ((go_at_call 24; first | (with_reducible exact Calls.quiet_of_same (HC1 _)) | (with_reducible exact Calls.quiet_of_same (HC2 _))))
          rename_i nq
          go_wp2_with fail
          go_ret2
          exact TupP.mk _ _ rfl (below_drewN hBa nq)
        | false =>
          by_cases q3 : z ≤ y
          · have q3' : decide (z ≤ y) = true := decide_eq_true q3
            clear q3
            go_quiet ((go_at_call 24; first | (with_reducible exact Calls.quiet_of_same (HC1 _)) | (with_reducible exact Calls.quiet_of_same (HC2 _))))
            rename_i nq
            go_wp2_with fail
            go_ret2
            exact TupP.mk _ _ rfl (below_drewN hBa nq)
          · have q3' : decide (z ≤ y) = false := by simpa using q3
            clear q3
            go_quiet ((go_at_call 24; first | (with_reducible exact Calls.quiet_of_same (HC1 _)) | (with_reducible exact Calls.quiet_of_same (HC2 _))))
            rename_i nq
            clear HC1 HC2
            have hbw2 := below_drewN hbw nq
            have hBb := below_drewN hBa nq
            have kb := Blk.drewN ka nq
            have hsd2 : SlI (wa.drewN nq) x.down.A x.down.l.length x.down.c x.down.l := hsd
            have hsu2 : SlI (wa.drewN nq) x.up.A x.up.l.length x.up.c x.up.l := hsu
            have s02 : (wa.drewN nq).cell? ⟨sb, so + k, none⟩ = some (.int .i64 y) := s0
            have t02 : (wa.drewN nq).cell? ⟨tb, to_ + k, none⟩ = some (.int .i64 z) := t0
            have c02 : (wa.drewN nq).cell? ⟨gx, 0, none⟩ = some (.slice (some ⟨sb, so, none⟩) x.down.l.length x.down.c) := c0
            have c12 : (wa.drewN nq).cell? ⟨gx, 1, none⟩ = some (.slice (some ⟨tb, to_, none⟩) x.up.l.length x.up.c) := c1
            clear s0 t0 c0 c1 hbw hBa ka hsd hsu lx
            generalize wa.drewN nq = wb at hbw2 hBb kb hsd2 hsu2 s02 t02 c02 c12 ⊢
            have lx := kb.lt
            cases k with
            | zero =>
              go_wp2_with fail
              go_quiet (fail)
              go_wp2_with fail
              exact ⟨⟨1, by omega, by go_num, below_drewN hbw2 nq⟩, by simp [intOf]; omega⟩
            | succ m =>
              obtain ⟨sb2, so2, hA2, hsb2, s1⟩ := hsd2.at_ (k := m) (by omega)
              rw [HA.out] at hA2
              cases hA2
              obtain ⟨tb2, to2, hB2, htb2, t1⟩ := hsu2.at_ (k := m) (by omega)
              rw [HB.out] at hB2
              cases hB2
              generalize at0 x.down.l m = p at s1
              generalize at0 x.up.l m = r at t1
              have hw1 : IntKind.i64.wrap (m : Int) = (m : Int) := IntWalk.i64_in _ (by omega)
              have hw2 : wrap64 (m : Int) = (m : Int) := by unfold wrap64; omega
              have hm1 : (0 : Int) ≤ m := by omega
              have hm2 : (m : Int) < x.down.l.length := by omega
              have hm4 : (m : Int) < x.up.l.length := by omega
              have hm3 : decide (0 < (m : Int) + 1) = true := decide_eq_true (by omega)
              by_cases qa : p ≤ y
              · have qa' : decide (p ≤ y) = true := decide_eq_true qa
                clear qa
                go_wp2_with fail
                go_quiet (fail)
                go_wp2_with fail
                go_ret2
                exact TupP.mk _ _ rfl (below_drewN hBb nq)
              · have qa' : decide (p ≤ y) = false := by simpa using qa
                clear qa
                by_cases qb : r ≤ z
                · have qb' : decide (r ≤ z) = true := decide_eq_true qb
                  clear qb
                  go_wp2_with fail
                  go_quiet (fail)
                  go_wp2_with fail
                  go_ret2
                  exact TupP.mk _ _ rfl (below_drewN hBb nq)
                · have qb' : decide (r ≤ z) = false := by simpa using qb
                  clear qb
                  go_wp2_with fail
                  go_quiet (fail)
                  go_wp2_with fail
                  exact ⟨⟨m + 1 + 1, by omega, by go_num, below_drewN hbw2 nq⟩, by simp [intOf]; omega⟩
    · obtain rfl : k = x.down.l.length := by omega
      have c0 : wa.cell? ⟨gx, 0, none⟩ = some (.slice x.down.A x.down.l.length x.down.c) := ka.cell 0
      go_wp2_with fail
      go_ret2
      exact TupP.mk _ _ rfl hBa
end Go.Proofs.Ytiglabknaldinaa
