/- The document's May: out, objects, Part: they return something; and what is known where they say yes. -/
import Derived.Test.YtiglabknaldinaaCfg
import Derived.Test.YtiglabknaldinaaMore
import Derived.Deep.DeepCutAuto
import Derived.Outline
import Derived.Test.YtiglabknaldinaaArgs2
namespace Go.Proofs.Ytiglabknaldinaa
open Go.RowKit
def OutP (n a b : Int) (w : World) (e : Ending) (w' : World) : Prop := ∃ r : Bool, e = .returned (.bool r) ∧ w = w' ∧ (r = false → a ≤ n ∧ n ≤ b)
theorem OutP.mk {n a b : Int} {w w' : World} {e : Ending} (r : Bool) (h1 : e = .returned (.bool r)) (h2 : w = w') (h3 : r = false → a ≤ n ∧ n ≤ b) : OutP n a b w e w' := ⟨r, h1, h2, h3⟩
/-- it returns a truth. -/
def BoolP (w : World) (e : Ending) (w' : World) : Prop := ∃ r : Bool, e = .returned (.bool r) ∧ Below w.heap.size w w'
theorem BoolP.mk {w w' : World} {e : Ending} (r : Bool) (h1 : e = .returned (.bool r)) (h2 : Below w.heap.size w w') : BoolP w e w' := ⟨r, h1, h2⟩
theorem out_any (n a b : Int) (w : World) : Calls Try.prog 24 #[.int .i64 n, .int .i64 a, .int .i64 b] w (OutP n a b w) := by
  by_cases h1 : n < a
  · go_enter Try.func24, Try.ntmps24
    go_wp2_with fail
    go_ret
    exact OutP.mk true rfl rfl (fun h => by cases h)
  · have h1' : decide (n < a) = false := by simpa using h1
    by_cases h2 : b < n
    · go_enter Try.func24, Try.ntmps24
      go_wp2_with fail
      go_ret
      exact OutP.mk true rfl rfl (fun h => by cases h)
    · have h2' : decide (b < n) = false := by simpa using h2
      go_enter Try.func24, Try.ntmps24
      go_wp2_with fail
      go_ret
      exact OutP.mk false rfl rfl (fun _ => by omega)
/-- the same, its answer a name. -/
theorem out_is (n a b : Int) : ∃ r : Bool, ∀ w, Calls Try.prog 24 #[.int .i64 n, .int .i64 a, .int .i64 b] w fun e w' => e = .returned (.bool r) ∧ w' = w := by
  by_cases h1 : n < a
  · refine ⟨true, fun w => ?_⟩
    go_enter Try.func24, Try.ntmps24
    go_wp2_with fail
    go_ret
    exact ⟨rfl, rfl⟩
  · have h1' : decide (n < a) = false := by simpa using h1
    by_cases h2 : b < n
    · refine ⟨true, fun w => ?_⟩
      go_enter Try.func24, Try.ntmps24
      go_wp2_with fail
      go_ret
      exact ⟨rfl, rfl⟩
    · have h2' : decide (b < n) = false := by simpa using h2
      refine ⟨false, fun w => ?_⟩
      go_enter Try.func24, Try.ntmps24
      go_wp2_with fail
      go_ret
      exact ⟨rfl, rfl⟩
set_option maxRecDepth 100000 in
set_option maxHeartbeats 3200000 in
theorem objects_any {w : World} {x : Pt} (hx : rdPt.ok w x) : Calls Try.prog 32 #[.agg #[.slice x.regs.A x.regs.l.length x.regs.c, .slice x.procs.A x.procs.l.length x.procs.c, .slice x.ports.A x.ports.l.length x.ports.c, .slice x.sems.A x.sems.l.length x.sems.c, .int .i64 x.flags, .slice x.pools.A x.pools.l.length x.pools.c, .slice x.slates.A x.slates.l.length x.slates.c, .int .i64 x.cap, .int .i64 x.bud, .int .i64 x.lad, .slice x.acts.A x.acts.l.length x.acts.c]] w (BoolP w) := by
  have hb1 := (Below.refl w.heap.size w).alloc (Nat.le_refl _) (.cells #[.slice x.regs.A x.regs.l.length x.regs.c, .slice x.procs.A x.procs.l.length x.procs.c, .slice x.ports.A x.ports.l.length x.ports.c, .slice x.sems.A x.sems.l.length x.sems.c, .int .i64 x.flags, .slice x.pools.A x.pools.l.length x.pools.c, .slice x.slates.A x.slates.l.length x.slates.c, .int .i64 x.cap, .int .i64 x.bud, .int .i64 x.lad, .slice x.acts.A x.acts.l.length x.acts.c] 70)
  have k1 := Blk.new w 70 #[.slice x.regs.A x.regs.l.length x.regs.c, .slice x.procs.A x.procs.l.length x.procs.c, .slice x.ports.A x.ports.l.length x.ports.c, .slice x.sems.A x.sems.l.length x.sems.c, .int .i64 x.flags, .slice x.pools.A x.pools.l.length x.pools.c, .slice x.slates.A x.slates.l.length x.slates.c, .int .i64 x.cap, .int .i64 x.bud, .int .i64 x.lad, .slice x.acts.A x.acts.l.length x.acts.c]
  go_enter Try.func32, Try.ntmps32
  go_upto_region 1 with fail
  generalize w.alloc (.cells #[.slice x.regs.A x.regs.l.length x.regs.c, .slice x.procs.A x.procs.l.length x.procs.c, .slice x.ports.A x.ports.l.length x.ports.c, .slice x.sems.A x.sems.l.length x.sems.c, .int .i64 x.flags, .slice x.pools.A x.pools.l.length x.pools.c, .slice x.slates.A x.slates.l.length x.slates.c, .int .i64 x.cap, .int .i64 x.bud, .int .i64 x.lad, .slice x.acts.A x.acts.l.length x.acts.c] 70) = w1 at hb1 k1 ⊢
  obtain ⟨gx, hgx⟩ : ∃ gx, gx = w.heap.size := ⟨_, rfl⟩
  rw [← hgx] at k1 ⊢
  clear hgx
  have lx := k1.lt
  have c3 : w1.cell? ⟨gx, 3, none⟩ = some (.slice x.sems.A x.sems.l.length x.sems.c) := k1.cell 3
  have c4 : w1.cell? ⟨gx, 4, none⟩ = some (.int .i64 x.flags) := k1.cell 4
  have c5 : w1.cell? ⟨gx, 5, none⟩ = some (.slice x.pools.A x.pools.l.length x.pools.c) := k1.cell 5
  have c6 : w1.cell? ⟨gx, 6, none⟩ = some (.slice x.slates.A x.slates.l.length x.slates.c) := k1.cell 6
  have hs := rdSms.keep hx.2.2.2.1 hb1
  have hp := rdPls.keep hx.2.2.2.2.2.1 hb1
  have hl : SlI w1 x.slates.A x.slates.l.length x.slates.c x.slates.l := SlI.keep hx.2.2.2.2.2.2.1 hb1
  by_cases q1 : 4 < x.sems.l.length
  · go_wp2_with fail
    go_ret
    exact BoolP.mk false rfl (hb1)
  · have q1' : decide (4 < (x.sems.l.length : Int)) = false := by simp; omega
    by_cases q2 : 4 < x.pools.l.length
    · go_wp2_with fail
      go_ret
      exact BoolP.mk false rfl (hb1)
    · have q2' : decide (4 < (x.pools.l.length : Int)) = false := by simp; omega
      by_cases q3 : 4 < x.slates.l.length
      · go_wp2_with fail
        go_ret
        exact BoolP.mk false rfl (hb1)
      · have q3' : decide (4 < (x.slates.l.length : Int)) = false := by simp; omega
        go_wp2_with fail
        refine (out_any _ _ _ _).mono ?_
        rintro e _ ⟨b, rfl, rfl, -⟩
        cases b with
        | true =>
          go_wp2_with fail
          go_ret
          exact BoolP.mk false rfl (hb1)
        | false =>
          go_wp2_with fail
          obtain ⟨wo, hwo⟩ : ∃ wo : World, wo = w1 := ⟨_, rfl⟩
          go_loopw [3] (fun i wr => ∃ (k q : Nat), k ≤ x.sems.l.length ∧ i = .int .i64 (k : Int) ∧ wr = wo.drewN q) (fun i _ => x.sems.l.length - (intOf i).toNat)
          case atStart => exact ⟨0, 0, Nat.zero_le _, rfl, hwo.symm⟩
          case round =>
            subst hwo
            obtain ⟨k, q, hk, rfl, rfl⟩ := hrel
            have hb2 := below_drewN hb1 q
            have k2 := Blk.drewN k1 q
            have hs2 : rdSms.ok (wo.drewN q) x.sems := hs
            have hp2 : rdPls.ok (wo.drewN q) x.pools := hp
            have hl2 : SlI (wo.drewN q) x.slates.A x.slates.l.length x.slates.c x.slates.l := hl
            clear c3 c4 c5 c6 lx hs hp hl
            generalize hwr : wo.drewN q = wr at hb2 k2 hs2 hp2 hl2 ⊢
            have HQ := Lib.hid hwr
            clear hwr
            have lx := k2.lt
            by_cases hlt : k < x.sems.l.length
            · have c3 : wr.cell? ⟨gx, 3, none⟩ = some (.slice x.sems.A x.sems.l.length x.sems.c) := k2.cell 3
              obtain ⟨sb, so, hA, hsb, hsc⟩ := hs2.1.at_ Sm0 hlt
              have s0 : wr.cell? ⟨sb, so + k * 2, none⟩ = some (.int .i64 (atD Sm0 x.sems.l k).first) := hsc 0 _ rfl
              have s1 : wr.cell? ⟨sb, so + k * 2 + 1, none⟩ = some (.int .i64 (atD Sm0 x.sems.l k).most) := hsc 1 _ rfl
              rw [hA] at c3
              clear hA
              clear hsc
              generalize atD Sm0 x.sems.l k = y at s0 s1
              obtain ⟨r1, h1⟩ := out_is y.most 1 1000
              obtain ⟨r2, h2⟩ := out_is y.first 0 y.most
              have HC1 := fun m => h1 (wr.drewN m)
              have HC2 := fun m => h2 (wr.drewN m)
              clear h1 h2
              go_wp2_with fail
              cases r1 with
              | true =>
                go_quiet ((go_at_call 24; exact Calls.quiet_of_same (HC1 _)))
                rename_i nq
                go_wp2_with fail
                go_ret
                exact BoolP.mk false rfl (below_drewN hb2 nq)
              | false =>
                go_quiet ((go_at_call 24; first | (with_reducible exact Calls.quiet_of_same (HC1 _)) | (with_reducible exact Calls.quiet_of_same (HC2 _))))
                rename_i nq
                cases r2 with
                | true =>
                  go_wp2_with fail
                  go_ret
                  exact BoolP.mk false rfl (below_drewN hb2 nq)
                | false =>
                  go_wp2_with fail
                  exact ⟨⟨k + 1, q + nq, by omega, by go_num, by rw [← HQ.out, World.drewN_drewN]⟩, by simp [intOf]; omega⟩
            · obtain rfl : k = x.sems.l.length := by omega
              have c3 : wr.cell? ⟨gx, 3, none⟩ = some (.slice x.sems.A x.sems.l.length x.sems.c) := k2.cell 3
              obtain ⟨w2, hw2⟩ : ∃ w2 : World, w2 = wr := ⟨_, rfl⟩
              subst hw2
              have c5 : w2.cell? ⟨gx, 5, none⟩ = some (.slice x.pools.A x.pools.l.length x.pools.c) := k2.cell 5
              have c6 : w2.cell? ⟨gx, 6, none⟩ = some (.slice x.slates.A x.slates.l.length x.slates.c) := k2.cell 6
              go_wp2_with fail
              obtain ⟨wp, hwp⟩ : ∃ wp : World, wp = w2 := ⟨_, rfl⟩
              go_loopw [4] (fun i wr => ∃ (k : Nat), k ≤ x.pools.l.length ∧ i = .int .i64 (k : Int) ∧ wp = wr) (fun i _ => x.pools.l.length - (intOf i).toNat)
              case atStart => exact ⟨0, Nat.zero_le _, rfl, hwp⟩
              case round =>
                subst hwp
                obtain ⟨k, hk, rfl, rfl⟩ := hrel
                by_cases hlt : k < x.pools.l.length
                · obtain ⟨sb, so, hA, hsb, hsc⟩ := hp2.1.at_ Pl0 hlt
                  have s0 : wp.cell? ⟨sb, so + k * 2, none⟩ = some (.int .i64 (atD Pl0 x.pools.l k).size) := hsc 0 _ rfl
                  have s1 : wp.cell? ⟨sb, so + k * 2 + 1, none⟩ = some (.int .i64 (atD Pl0 x.pools.l k).depth) := hsc 1 _ rfl
                  rw [hA] at c5
                  clear hA
                  clear hsc
                  generalize atD Pl0 x.pools.l k = y at s0 s1
                  go_wp2_with fail
                  refine (out_any _ _ _ _).mono ?_
                  rintro e _ ⟨b, rfl, rfl, -⟩
                  cases b with
                  | true =>
                    go_wp2_with fail
                    go_ret
                    exact BoolP.mk false rfl (hb2)
                  | false =>
                    go_wp2_with fail
                    refine (out_any _ _ _ _).mono ?_
                    rintro e _ ⟨b, rfl, rfl, -⟩
                    cases b with
                    | true =>
                      go_wp2_with fail
                      go_ret
                      exact BoolP.mk false rfl (hb2)
                    | false =>
                      go_wp2_with fail
                      exact ⟨⟨k + 1, by omega, by go_num, by first | trivial | rfl⟩, by simp [intOf]; omega⟩
                · obtain rfl : k = x.pools.l.length := by omega
                  go_wp2_with fail
                  go_loopw [5] (fun i wr => ∃ (k : Nat), k ≤ x.slates.l.length ∧ i = .int .i64 (k : Int) ∧ wp = wr) (fun i _ => x.slates.l.length - (intOf i).toNat)
                  case atStart => exact ⟨0, Nat.zero_le _, rfl, rfl⟩
                  case round =>
                    obtain ⟨k, hk, rfl, rfl⟩ := hrel
                    by_cases hlt : k < x.slates.l.length
                    · obtain ⟨sb, so, hA, hsb, s0⟩ := hl2.at_ hlt
                      rw [hA] at c6
                      clear hA
                      generalize at0 x.slates.l k = y at s0
                      go_wp2_with fail
                      refine (out_any _ _ _ _).mono ?_
                      rintro e _ ⟨b, rfl, rfl, -⟩
                      cases b with
                      | true =>
                        go_wp2_with fail
                        go_ret
                        exact BoolP.mk false rfl (hb2)
                      | false =>
                        go_wp2_with fail
                        exact ⟨⟨k + 1, by omega, by go_num, by first | trivial | rfl⟩, by simp [intOf]; omega⟩
                    · obtain rfl : k = x.slates.l.length := by omega
                      go_wp2_with fail
                      go_ret
                      exact BoolP.mk true rfl (hb2)
end Go.Proofs.Ytiglabknaldinaa
