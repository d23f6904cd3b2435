/- The document's May: Part returns something; where it says yes, the Cap is small. Printed by wip/gen_may.py. -/
import Derived.Test.YtiglabknaldinaaMayA
namespace Go.Proofs.Ytiglabknaldinaa
open Go.RowKit
def PartP (x : Pt) (w : World) (e : Ending) (w' : World) : Prop := ∃ z : Int, e = .returned (.int .i64 z) ∧ (z = 0 → 1 ≤ x.cap ∧ x.cap ≤ 1000000000) ∧ Below w.heap.size w w'
theorem PartP.mk {x : Pt} {w w' : World} {e : Ending} (z : Int) (h1 : e = .returned (.int .i64 z)) (h2 : z = 0 → 1 ≤ x.cap ∧ x.cap ≤ 1000000000) (h3 : Below w.heap.size w w') : PartP x w e w' := ⟨z, h1, h2, h3⟩
set_option maxRecDepth 100000 in
set_option maxHeartbeats 12800000 in
theorem part_any {w : World} {x : Pt} (hx : rdPt.ok w x) : Calls Try.prog 25 #[.agg #[.slice x.regs.A x.regs.l.length x.regs.c, .slice x.procs.A x.procs.l.length x.procs.c, .slice x.ports.A x.ports.l.length x.ports.c, .slice x.sems.A x.sems.l.length x.sems.c, .int .i64 x.flags, .slice x.pools.A x.pools.l.length x.pools.c, .slice x.slates.A x.slates.l.length x.slates.c, .int .i64 x.cap, .int .i64 x.bud, .int .i64 x.lad, .slice x.acts.A x.acts.l.length x.acts.c]] w (PartP x w) := by
  have hb1 := (Below.refl w.heap.size w).alloc (Nat.le_refl _) (.cells #[.slice x.regs.A x.regs.l.length x.regs.c, .slice x.procs.A x.procs.l.length x.procs.c, .slice x.ports.A x.ports.l.length x.ports.c, .slice x.sems.A x.sems.l.length x.sems.c, .int .i64 x.flags, .slice x.pools.A x.pools.l.length x.pools.c, .slice x.slates.A x.slates.l.length x.slates.c, .int .i64 x.cap, .int .i64 x.bud, .int .i64 x.lad, .slice x.acts.A x.acts.l.length x.acts.c] 70)
  have k1 := Blk.new w 70 #[.slice x.regs.A x.regs.l.length x.regs.c, .slice x.procs.A x.procs.l.length x.procs.c, .slice x.ports.A x.ports.l.length x.ports.c, .slice x.sems.A x.sems.l.length x.sems.c, .int .i64 x.flags, .slice x.pools.A x.pools.l.length x.pools.c, .slice x.slates.A x.slates.l.length x.slates.c, .int .i64 x.cap, .int .i64 x.bud, .int .i64 x.lad, .slice x.acts.A x.acts.l.length x.acts.c]
  have n0 := hx.1.1.len
  have n1 := hx.2.1.1.len
  have n2 := hx.2.2.1.1.len
  have n10 := hx.2.2.2.2.2.2.2.2.2.2.1.len_le
  go_enter Try.func25, Try.ntmps25
  go_upto_region 1 with fail
  generalize w.alloc (.cells #[.slice x.regs.A x.regs.l.length x.regs.c, .slice x.procs.A x.procs.l.length x.procs.c, .slice x.ports.A x.ports.l.length x.ports.c, .slice x.sems.A x.sems.l.length x.sems.c, .int .i64 x.flags, .slice x.pools.A x.pools.l.length x.pools.c, .slice x.slates.A x.slates.l.length x.slates.c, .int .i64 x.cap, .int .i64 x.bud, .int .i64 x.lad, .slice x.acts.A x.acts.l.length x.acts.c] 70) = w1 at hb1 k1 ⊢
  obtain ⟨gx, hgx⟩ : ∃ gx, gx = w.heap.size := ⟨_, rfl⟩
  rw [← hgx] at k1 ⊢
  clear hgx
  have hB0 := Below.refl w1.heap.size w1
  have lx := k1.lt
  have c0 : w1.cell? ⟨gx, 0, none⟩ = some (.slice x.regs.A x.regs.l.length x.regs.c) := k1.cell 0
  by_cases q0 : 4 < x.regs.l.length
  · go_wp2_with fail
    go_ret
    exact PartP.mk 21 rfl (fun h => absurd h (by decide)) hb1
  · have q0' : decide (4 < (x.regs.l.length : Int)) = false := by simp; omega
    go_wp2_with fail
    go_loopw [3, 4, 5] (fun en i _ wr => ∃ (k : Nat) (z : Int), k ≤ x.regs.l.length ∧ i = .int .i64 (k : Int) ∧ en = .int .i64 z ∧ Below w1.heap.size w1 wr) (fun _ i _ _ => x.regs.l.length - (intOf i).toNat)
    case atStart => exact ⟨0, 0, Nat.zero_le _, rfl, rfl, hB0⟩
    case round =>
      obtain ⟨k, z, hk, rfl, rfl, hbw⟩ := hrel
      obtain ⟨wa0, hwa⟩ : ∃ w : World, w = wr := ⟨_, rfl⟩
      subst hwa
      have kx0 := k1.keep hbw
      have hBx0 := hb1.trans (hbw.mono hb1.size)
      have lx := kx0.lt
      have c0 : wa0.cell? ⟨gx, 0, none⟩ = some (.slice x.regs.A x.regs.l.length x.regs.c) := kx0.cell 0
      by_cases hlt : k < x.regs.l.length
      · have _d := True.intro
        obtain ⟨sb, so, hA, hsb, hsc⟩ := (rdRgs.keep hx.1 hBx0).1.at_ Rg0 hlt
        have s0 : wa0.cell? ⟨sb, so + k * 3, none⟩ = some (.int .i64 (atD Rg0 x.regs.l k).base) := hsc 0 _ rfl
        have s1 : wa0.cell? ⟨sb, so + k * 3 + 1, none⟩ = some (.int .i64 (atD Rg0 x.regs.l k).size) := hsc 1 _ rfl
        have s2 : wa0.cell? ⟨sb, so + k * 3 + 2, none⟩ = some (.bool (atD Rg0 x.regs.l k).wr) := hsc 2 _ rfl
        rw [hA] at c0
        clear hA hsc
        generalize atD Rg0 x.regs.l k = y at s0 s1 s2
        have ba := (Below.refl wa0.heap.size wa0).alloc (Nat.le_refl _) (.cells #[.int .i64 y.base, .int .i64 y.size, .bool y.wr] 93)
        have ka := Blk.new wa0 93 #[.int .i64 y.base, .int .i64 y.size, .bool y.wr]
        go_upto_region 8 with fail
        generalize wa0.alloc (.cells #[.int .i64 y.base, .int .i64 y.size, .bool y.wr] 93) = wb at ba ka ⊢
        obtain ⟨gy, hgy⟩ : ∃ gy, gy = wa0.heap.size := ⟨_, rfl⟩
        rw [← hgy] at ka ⊢
        clear hgy
        have hbw2 := hbw.trans (ba.mono hbw.size)
        have hBy := hb1.trans (hbw2.mono hb1.size)
        have ly := ka.lt
        clear s0 s1 s2 c0
        have y0 : wb.cell? ⟨gy, 0, none⟩ = some (.int .i64 y.base) := ka.cell 0
        have y1 : wb.cell? ⟨gy, 1, none⟩ = some (.int .i64 y.size) := ka.cell 1
        have y2 : wb.cell? ⟨gy, 2, none⟩ = some (.bool y.wr) := ka.cell 2
        go_wp2_with fail
        refine (out_any _ _ _ _).mono ?_
        rintro e _ ⟨b, rfl, rfl, hf1⟩
        cases b with
        | true =>
          go_wp2_with fail
          go_ret
          exact PartP.mk 21 rfl (fun h => absurd h (by decide)) (hBy)
        | false =>
          have Hhf1 := Lib.hid (hf1 rfl)
          clear hf1
          go_wp2_with fail
          refine (out_any _ _ _ _).mono ?_
          rintro e _ ⟨b, rfl, rfl, hf2⟩
          cases b with
          | true =>
            go_wp2_with fail
            go_ret
            exact PartP.mk 21 rfl (fun h => absurd h (by decide)) (hBy)
          | false =>
            have Hhf2 := Lib.hid (hf2 rfl)
            clear hf2
            obtain ⟨f1, f2⟩ := Hhf1.out
            obtain ⟨f3, f4⟩ := Hhf2.out
            have hsub : IntKind.i64.wrap (1048576 - y.size) = 1048576 - y.size := IntWalk.i64_in _ (by omega)
            clear Hhf1 Hhf2
            by_cases q : 1048576 - y.size < y.base
            · go_wp2_with fail
              go_ret
              exact PartP.mk 21 rfl (fun h => absurd h (by decide)) hBy
            · have q' : decide (1048576 - y.size < y.base) = false := by simpa using q
              go_wp2_with fail
              exact ⟨⟨k + 1, _, by omega, by go_num, rfl, hbw2⟩, by simp [intOf]; omega⟩
      · obtain rfl : k = x.regs.l.length := by omega
        have c1 : wa0.cell? ⟨gx, 1, none⟩ = some (.slice x.procs.A x.procs.l.length x.procs.c) := kx0.cell 1
        go_wp2_with fail
        refine (out_any _ _ _ _).mono ?_
        rintro e _ ⟨b, rfl, rfl, -⟩
        cases b with
        | true =>
          go_wp2_with fail
          go_ret
          exact PartP.mk 22 rfl (fun h => absurd h (by decide)) (hBx0)
        | false =>
          go_wp2_with fail
          clear c0 c1 lx
          go_loopw [6, 7] (fun i _ wr => ∃ (k : Nat), k ≤ x.procs.l.length ∧ i = .int .i64 (k : Int) ∧ Below w1.heap.size w1 wr) (fun i _ _ => x.procs.l.length - (intOf i).toNat)
          case atStart => exact ⟨0, Nat.zero_le _, rfl, hbw⟩
          case round =>
            obtain ⟨k, hk, rfl, hbw⟩ := hrel
            obtain ⟨wa1, hwa⟩ : ∃ w : World, w = wr := ⟨_, rfl⟩
            subst hwa
            have kx1 := k1.keep hbw
            have hBx1 := hb1.trans (hbw.mono hb1.size)
            have lx := kx1.lt
            have c1 : wa1.cell? ⟨gx, 1, none⟩ = some (.slice x.procs.A x.procs.l.length x.procs.c) := kx1.cell 1
            by_cases hlt : k < x.procs.l.length
            · have _d := True.intro
              obtain ⟨sb, so, hA, hsb, hsc⟩ := (rdPcs.keep hx.2.1 hBx1).1.at_ Pc0 hlt
              have s0 : wa1.cell? ⟨sb, so + k * 3, none⟩ = some (.int .i64 (atD Pc0 x.procs.l k).prio) := hsc 0 _ rfl
              have s1 : wa1.cell? ⟨sb, so + k * 3 + 1, none⟩ = some (.int .i64 (atD Pc0 x.procs.l k).per) := hsc 1 _ rfl
              have s2 : wa1.cell? ⟨sb, so + k * 3 + 2, none⟩ = some (.int .i64 (atD Pc0 x.procs.l k).cost) := hsc 2 _ rfl
              rw [hA] at c1
              clear hA hsc
              generalize atD Pc0 x.procs.l k = y at s0 s1 s2
              have ba := (Below.refl wa1.heap.size wa1).alloc (Nat.le_refl _) (.cells #[.int .i64 y.prio, .int .i64 y.per, .int .i64 y.cost] 95)
              have ka := Blk.new wa1 95 #[.int .i64 y.prio, .int .i64 y.per, .int .i64 y.cost]
              go_upto_region 17 with fail
              generalize wa1.alloc (.cells #[.int .i64 y.prio, .int .i64 y.per, .int .i64 y.cost] 95) = wb at ba ka ⊢
              obtain ⟨gy, hgy⟩ : ∃ gy, gy = wa1.heap.size := ⟨_, rfl⟩
              rw [← hgy] at ka ⊢
              clear hgy
              have hbw2 := hbw.trans (ba.mono hbw.size)
              have hBy := hb1.trans (hbw2.mono hb1.size)
              have ly := ka.lt
              clear s0 s1 s2 c1
              have y0 : wb.cell? ⟨gy, 0, none⟩ = some (.int .i64 y.prio) := ka.cell 0
              have y1 : wb.cell? ⟨gy, 1, none⟩ = some (.int .i64 y.per) := ka.cell 1
              have y2 : wb.cell? ⟨gy, 2, none⟩ = some (.int .i64 y.cost) := ka.cell 2
              go_wp2_with fail
              refine (out_any _ _ _ _).mono ?_
              rintro e _ ⟨b, rfl, rfl, -⟩
              cases b with
              | true =>
                go_wp2_with fail
                go_ret
                exact PartP.mk 22 rfl (fun h => absurd h (by decide)) (hBy)
              | false =>
                go_wp2_with fail
                refine (out_any _ _ _ _).mono ?_
                rintro e _ ⟨b, rfl, rfl, -⟩
                cases b with
                | true =>
                  go_wp2_with fail
                  go_ret
                  exact PartP.mk 22 rfl (fun h => absurd h (by decide)) (hBy)
                | false =>
                  go_wp2_with fail
                  refine (out_any _ _ _ _).mono ?_
                  rintro e _ ⟨b, rfl, rfl, -⟩
                  cases b with
                  | true =>
                    go_wp2_with fail
                    go_ret
                    exact PartP.mk 22 rfl (fun h => absurd h (by decide)) (hBy)
                  | false =>
                    go_wp2_with fail
                    exact ⟨⟨k + 1, by omega, by go_num, hbw2⟩, by simp [intOf]; omega⟩
            · obtain rfl : k = x.procs.l.length := by omega
              have c2 : wa1.cell? ⟨gx, 2, none⟩ = some (.slice x.ports.A x.ports.l.length x.ports.c) := kx1.cell 2
              by_cases q2 : 8 < x.ports.l.length
              · go_wp2_with fail
                go_ret
                exact PartP.mk 23 rfl (fun h => absurd h (by decide)) hBx1
              · have q2' : decide (8 < (x.ports.l.length : Int)) = false := by simp; omega
                go_wp2_with fail
                clear c1 c2 lx
                go_loopw [8, 9] (fun i _ wr => ∃ (k : Nat), k ≤ x.ports.l.length ∧ i = .int .i64 (k : Int) ∧ Below w1.heap.size w1 wr) (fun i _ _ => x.ports.l.length - (intOf i).toNat)
                case atStart => exact ⟨0, Nat.zero_le _, rfl, hbw⟩
                case round =>
                  obtain ⟨k, hk, rfl, hbw⟩ := hrel
                  obtain ⟨wa2, hwa⟩ : ∃ w : World, w = wr := ⟨_, rfl⟩
                  subst hwa
                  have kx2 := k1.keep hbw
                  have hBx2 := hb1.trans (hbw.mono hb1.size)
                  have lx := kx2.lt
                  have c2 : wa2.cell? ⟨gx, 2, none⟩ = some (.slice x.ports.A x.ports.l.length x.ports.c) := kx2.cell 2
                  by_cases hlt : k < x.ports.l.length
                  · have _d := True.intro
                    obtain ⟨sb, so, hA, hsb, hsc⟩ := (rdPos.keep hx.2.2.1 hBx2).1.at_ Po0 hlt
                    have s0 : wa2.cell? ⟨sb, so + k * 4, none⟩ = some (.bool (atD Po0 x.ports.l k).q) := hsc 0 _ rfl
                    have s1 : wa2.cell? ⟨sb, so + k * 4 + 1, none⟩ = some (.bool (atD Po0 x.ports.l k).inn) := hsc 1 _ rfl
                    have s2 : wa2.cell? ⟨sb, so + k * 4 + 2, none⟩ = some (.int .i64 (atD Po0 x.ports.l k).size) := hsc 2 _ rfl
                    have s3 : wa2.cell? ⟨sb, so + k * 4 + 3, none⟩ = some (.int .i64 (atD Po0 x.ports.l k).depth) := hsc 3 _ rfl
                    rw [hA] at c2
                    clear hA hsc
                    generalize atD Po0 x.ports.l k = y at s0 s1 s2 s3
                    have ba := (Below.refl wa2.heap.size wa2).alloc (Nat.le_refl _) (.cells #[.bool y.q, .bool y.inn, .int .i64 y.size, .int .i64 y.depth] 97)
                    have ka := Blk.new wa2 97 #[.bool y.q, .bool y.inn, .int .i64 y.size, .int .i64 y.depth]
                    go_upto_region 25 with fail
                    generalize wa2.alloc (.cells #[.bool y.q, .bool y.inn, .int .i64 y.size, .int .i64 y.depth] 97) = wb at ba ka ⊢
                    obtain ⟨gy, hgy⟩ : ∃ gy, gy = wa2.heap.size := ⟨_, rfl⟩
                    rw [← hgy] at ka ⊢
                    clear hgy
                    have hbw2 := hbw.trans (ba.mono hbw.size)
                    have hBy := hb1.trans (hbw2.mono hb1.size)
                    have ly := ka.lt
                    clear s0 s1 s2 s3 c2
                    have y0 : wb.cell? ⟨gy, 0, none⟩ = some (.bool y.q) := ka.cell 0
                    have y1 : wb.cell? ⟨gy, 1, none⟩ = some (.bool y.inn) := ka.cell 1
                    have y2 : wb.cell? ⟨gy, 2, none⟩ = some (.int .i64 y.size) := ka.cell 2
                    have y3 : wb.cell? ⟨gy, 3, none⟩ = some (.int .i64 y.depth) := ka.cell 3
                    obtain ⟨pq, pin, psz, pdp⟩ := y
                    simp only at y0 y1 y2 y3
                    go_wp2_with fail
                    refine (out_any _ _ _ _).mono ?_
                    rintro e _ ⟨b, rfl, rfl, -⟩
                    cases b with
                    | true =>
                      go_wp2_with fail
                      go_ret
                      exact PartP.mk 23 rfl (fun h => absurd h (by decide)) (hBy)
                    | false =>
                      cases pq with
                      | true =>
                        go_wp2_with fail
                        refine (out_any _ _ _ _).mono ?_
                        rintro e _ ⟨b, rfl, rfl, -⟩
                        cases b with
                        | true =>
                          go_wp2_with fail
                          go_ret
                          exact PartP.mk 23 rfl (fun h => absurd h (by decide)) (hBy)
                        | false =>
                          go_wp2_with fail
                          exact ⟨⟨k + 1, by omega, by go_num, hbw2⟩, by simp [intOf]; omega⟩
                      | false =>
                        by_cases qd : pdp = 0
                        · have qd' : (pdp != 0) = false := by simpa using qd
                          clear qd
                          go_wp2_with fail
                          exact ⟨⟨k + 1, by omega, by go_num, hbw2⟩, by simp [intOf]; omega⟩
                        · have qd' : (pdp != 0) = true := by simpa using qd
                          clear qd
                          go_wp2_with fail
                          go_ret
                          exact PartP.mk 23 rfl (fun h => absurd h (by decide)) hBy
                  · obtain rfl : k = x.ports.l.length := by omega
                    have c0 : wa2.cell? ⟨gx, 0, none⟩ = some (.slice x.regs.A x.regs.l.length x.regs.c) := kx2.cell 0
                    have c1 : wa2.cell? ⟨gx, 1, none⟩ = some (.slice x.procs.A x.procs.l.length x.procs.c) := kx2.cell 1
                    have c3 : wa2.cell? ⟨gx, 3, none⟩ = some (.slice x.sems.A x.sems.l.length x.sems.c) := kx2.cell 3
                    have c4 : wa2.cell? ⟨gx, 4, none⟩ = some (.int .i64 x.flags) := kx2.cell 4
                    have c5 : wa2.cell? ⟨gx, 5, none⟩ = some (.slice x.pools.A x.pools.l.length x.pools.c) := kx2.cell 5
                    have c6 : wa2.cell? ⟨gx, 6, none⟩ = some (.slice x.slates.A x.slates.l.length x.slates.c) := kx2.cell 6
                    have c7 : wa2.cell? ⟨gx, 7, none⟩ = some (.int .i64 x.cap) := kx2.cell 7
                    have c8 : wa2.cell? ⟨gx, 8, none⟩ = some (.int .i64 x.bud) := kx2.cell 8
                    have c9 : wa2.cell? ⟨gx, 9, none⟩ = some (.int .i64 x.lad) := kx2.cell 9
                    have c10 : wa2.cell? ⟨gx, 10, none⟩ = some (.slice x.acts.A x.acts.l.length x.acts.c) := kx2.cell 10
                    go_wp2_with fail
                    refine (objects_any (rdPt.keep hx hBx2)).mono ?_
                    rintro e w3 ⟨b, rfl, hb3⟩
                    have kx3 := kx2.keep hb3
                    have hb13 := hbw.trans (hb3.mono hbw.size)
                    have hBx3 := hb1.trans (hb13.mono hb1.size)
                    clear c0 c1 c2 c3 c4 c5 c6 c7 c8 c9 c10 lx
                    have lx := kx3.lt
                    cases b with
                    | false =>
                      go_wp2_with fail
                      go_ret
                      exact PartP.mk 24 rfl (fun h => absurd h (by decide)) (hBx3)
                    | true =>
                      have c7 : w3.cell? ⟨gx, 7, none⟩ = some (.int .i64 x.cap) := kx3.cell 7
                      have c8 : w3.cell? ⟨gx, 8, none⟩ = some (.int .i64 x.bud) := kx3.cell 8
                      have c9 : w3.cell? ⟨gx, 9, none⟩ = some (.int .i64 x.lad) := kx3.cell 9
                      have c10 : w3.cell? ⟨gx, 10, none⟩ = some (.slice x.acts.A x.acts.l.length x.acts.c) := kx3.cell 10
                      go_wp2_with fail
                      refine (out_any _ _ _ _).mono ?_
                      rintro e _ ⟨b, rfl, rfl, hf1⟩
                      cases b with
                      | true =>
                        go_wp2_with fail
                        go_ret
                        exact PartP.mk 20 rfl (fun h => absurd h (by decide)) (hBx3)
                      | false =>
                        have Hhf1 := Lib.hid (hf1 rfl)
                        clear hf1
                        go_wp2_with fail
                        refine (out_any _ _ _ _).mono ?_
                        rintro e _ ⟨b, rfl, rfl, -⟩
                        cases b with
                        | true =>
                          go_wp2_with fail
                          go_ret
                          exact PartP.mk 20 rfl (fun h => absurd h (by decide)) (hBx3)
                        | false =>
                          go_wp2_with fail
                          refine (out_any _ _ _ _).mono ?_
                          rintro e _ ⟨b, rfl, rfl, -⟩
                          cases b with
                          | true =>
                            go_wp2_with fail
                            go_ret
                            exact PartP.mk 20 rfl (fun h => absurd h (by decide)) (hBx3)
                          | false =>
                            by_cases q5 : x.acts.l.length = 5
                            rotate_left
                            · have q5' : ((x.acts.l.length : Int) != 5) = true := by simp; omega
                              go_wp2_with fail
                              go_ret
                              exact PartP.mk 20 rfl (fun h => absurd h (by decide)) (hBx3)
                            have q5' : ((x.acts.l.length : Int) != 5) = false := by simp; omega
                            have HQ5 := Lib.hid q5
                            clear q5
                            go_wp2_with fail
                            clear c7 c8 c9 c10 lx
                            go_loopw [10] (fun i wr => ∃ (k : Nat), k ≤ 5 ∧ i = .int .i64 (k : Int) ∧ Below w1.heap.size w1 wr) (fun i _ => 5 - (intOf i).toNat)
                            case atStart => exact ⟨0, Nat.zero_le _, rfl, hb13⟩
                            case round =>
                              obtain ⟨k, hk, rfl, hbw⟩ := hrel
                              have kx4 := k1.keep hbw
                              have hBx4 := hb1.trans (hbw.mono hb1.size)
                              have lx := kx4.lt
                              have c10 : wr.cell? ⟨gx, 10, none⟩ = some (.slice x.acts.A x.acts.l.length x.acts.c) := kx4.cell 10
                              by_cases hlt : k < 5
                              · have _d := True.intro
                                obtain ⟨sb, so, hA, hsb, s0⟩ := (SlI.keep hx.2.2.2.2.2.2.2.2.2.2 hBx4).at_ (k := k) (by rw [HQ5.out]; exact hlt)
                                have hkl : (k : Int) < x.acts.l.length := by rw [HQ5.out]; omega
                                rw [hA] at c10
                                clear hA
                                generalize at0 x.acts.l k = y at s0
                                go_wp2_with fail
                                refine (out_any _ _ _ _).mono ?_
                                rintro e _ ⟨b, rfl, rfl, -⟩
                                cases b with
                                | true =>
                                  go_wp2_with fail
                                  go_ret
                                  exact PartP.mk 20 rfl (fun h => absurd h (by decide)) (hBx4)
                                | false =>
                                  go_wp2_with fail
                                  exact ⟨⟨k + 1, by omega, by go_num, hbw⟩, by simp [intOf]; omega⟩
                              · obtain rfl : k = 5 := by omega
                                go_wp2_with fail
                                go_ret
                                exact PartP.mk 0 rfl (fun _ => Hhf1.out) hBx4
end Go.Proofs.Ytiglabknaldinaa
