/- Words and walks for the claims of this seat, merged: SmPart, SmPt, SmFunc, SmCf, RcList0. -/
import Derived.Test.YtahjnonkhbpnpaaGreatCm3
import Derived.Test.YtahjnonkhbpnpaaGreatCm6
/- conf's Same: samePower. Printed by wip/gen_smp.py. -/
namespace Go.Proofs.YtahjnonkhbpnpaaGreat
open Go.RowKit
set_option maxRecDepth 100000 in
set_option maxHeartbeats 6400000 in
theorem same_Pw {w : World} {x y : Pw} (hx : rdPw.ok w x) (hy : rdPw.ok w y) : Calls Tryz.prog 53 #[.agg #[.slice x.levels.A x.levels.l.length x.levels.c, .slice x.naps.A x.naps.l.length x.naps.c, .int .i64 x.sw, .int .i64 x.idle, .int .i64 x.change, .int .i64 x.quant, .int .i64 x.slow, .int .i64 x.ppm], .agg #[.slice y.levels.A y.levels.l.length y.levels.c, .slice y.naps.A y.naps.l.length y.naps.c, .int .i64 y.sw, .int .i64 y.idle, .int .i64 y.change, .int .i64 y.quant, .int .i64 y.slow, .int .i64 y.ppm]] w (SmPost w (bPw x = bPw y)) := by
  have hb1 := (Below.refl w.heap.size w).alloc (Nat.le_refl _) (.cells #[.slice x.levels.A x.levels.l.length x.levels.c, .slice x.naps.A x.naps.l.length x.naps.c, .int .i64 x.sw, .int .i64 x.idle, .int .i64 x.change, .int .i64 x.quant, .int .i64 x.slow, .int .i64 x.ppm] 28)
  have hb2 := hb1.alloc hb1.size (.cells #[.slice y.levels.A y.levels.l.length y.levels.c, .slice y.naps.A y.naps.l.length y.naps.c, .int .i64 y.sw, .int .i64 y.idle, .int .i64 y.change, .int .i64 y.quant, .int .i64 y.slow, .int .i64 y.ppm] 28)
  have k1 := (Blk.new w 28 #[.slice x.levels.A x.levels.l.length x.levels.c, .slice x.naps.A x.naps.l.length x.naps.c, .int .i64 x.sw, .int .i64 x.idle, .int .i64 x.change, .int .i64 x.quant, .int .i64 x.slow, .int .i64 x.ppm]).alloc (.cells #[.slice y.levels.A y.levels.l.length y.levels.c, .slice y.naps.A y.naps.l.length y.naps.c, .int .i64 y.sw, .int .i64 y.idle, .int .i64 y.change, .int .i64 y.quant, .int .i64 y.slow, .int .i64 y.ppm] 28)
  have k2 := Blk.new (w.alloc (.cells #[.slice x.levels.A x.levels.l.length x.levels.c, .slice x.naps.A x.naps.l.length x.naps.c, .int .i64 x.sw, .int .i64 x.idle, .int .i64 x.change, .int .i64 x.quant, .int .i64 x.slow, .int .i64 x.ppm] 28)) 28 #[.slice y.levels.A y.levels.l.length y.levels.c, .slice y.naps.A y.naps.l.length y.naps.c, .int .i64 y.sw, .int .i64 y.idle, .int .i64 y.change, .int .i64 y.quant, .int .i64 y.slow, .int .i64 y.ppm]
  rw [World.size_alloc] at k2
  go_enter Tryz.func53, Tryz.ntmps53
  go_upto_region 1 with fail
  generalize (w.alloc (.cells #[.slice x.levels.A x.levels.l.length x.levels.c, .slice x.naps.A x.naps.l.length x.naps.c, .int .i64 x.sw, .int .i64 x.idle, .int .i64 x.change, .int .i64 x.quant, .int .i64 x.slow, .int .i64 x.ppm] 28)).alloc (.cells #[.slice y.levels.A y.levels.l.length y.levels.c, .slice y.naps.A y.naps.l.length y.naps.c, .int .i64 y.sw, .int .i64 y.idle, .int .i64 y.change, .int .i64 y.quant, .int .i64 y.slow, .int .i64 y.ppm] 28) = w1 at hb2 k1 k2 ⊢
  have HW := Lib.hid (rfl : w.heap.size = w.heap.size)
  obtain ⟨gx, hgx⟩ : ∃ gx, gx = w.heap.size := ⟨_, rfl⟩
  rw [← hgx] at k1 k2 ⊢
  obtain ⟨gy, hgy⟩ : ∃ gy, gy = gx + 1 := ⟨_, rfl⟩
  rw [← hgy] at k2 ⊢
  clear hgx hgy hb1
  have lx := k1.lt
  have ly := k2.lt
  have cx0 : w1.cell? ⟨gx, 0, none⟩ = some (.slice x.levels.A x.levels.l.length x.levels.c) := k1.cell 0
  have cy0 : w1.cell? ⟨gy, 0, none⟩ = some (.slice y.levels.A y.levels.l.length y.levels.c) := k2.cell 0
  go_wp2_with fail
  refine (equal_Lv (rdLvs.keep hx.1 hb2) (rdLvs.keep hy.1 hb2)).mono ?_
  rintro e _ ⟨b0, rfl, hb, q, rfl⟩
  have HB0 := Lib.hid hb
  have k2x := Blk.drewN k1 q
  have k2y := Blk.drewN k2 q
  have B2 := below_drewN hb2 q
  generalize w1.drewN q = w2 at k2x k2y B2 ⊢
  clear hb lx ly cx0 cy0 k1 k2 hb2
  cases b0 with
  | false =>
    go_wp2_with fail
    go_ret
    exact SmPost.mk false rfl ⟨(fun h => by cases h), fun h => absurd (HB0.out.2 ((congrArg (fun p : Pw => p.levels.l) h :))) (by decide)⟩ B2
  | true =>
    have lx := k2x.lt
    have ly := k2y.lt
    have cx1 : w2.cell? ⟨gx, 1, none⟩ = some (.slice x.naps.A x.naps.l.length x.naps.c) := k2x.cell 1
    have cy1 : w2.cell? ⟨gy, 1, none⟩ = some (.slice y.naps.A y.naps.l.length y.naps.c) := k2y.cell 1
    go_wp2_with fail
    refine (equal_Np (rdNps.keep hx.2.1 B2) (rdNps.keep hy.2.1 B2)).mono ?_
    rintro e _ ⟨b1, rfl, hb, q, rfl⟩
    have HB1 := Lib.hid hb
    have k3x := Blk.drewN k2x q
    have k3y := Blk.drewN k2y q
    have B3 := below_drewN B2 q
    generalize w2.drewN q = w3 at k3x k3y B3 ⊢
    clear hb lx ly cx1 cy1 k2x k2y B2
    cases b1 with
    | false =>
      go_wp2_with fail
      go_ret
      exact SmPost.mk false rfl ⟨(fun h => by cases h), fun h => absurd (HB1.out.2 ((congrArg (fun p : Pw => p.naps.l) h :))) (by decide)⟩ B3
    | true =>
      have lx := k3x.lt
      have ly := k3y.lt
      have cx2 : w3.cell? ⟨gx, 2, none⟩ = some (.int .i64 x.sw) := k3x.cell 2
      have cy2 : w3.cell? ⟨gy, 2, none⟩ = some (.int .i64 y.sw) := k3y.cell 2
      have cx3 : w3.cell? ⟨gx, 3, none⟩ = some (.int .i64 x.idle) := k3x.cell 3
      have cy3 : w3.cell? ⟨gy, 3, none⟩ = some (.int .i64 y.idle) := k3y.cell 3
      have cx4 : w3.cell? ⟨gx, 4, none⟩ = some (.int .i64 x.change) := k3x.cell 4
      have cy4 : w3.cell? ⟨gy, 4, none⟩ = some (.int .i64 y.change) := k3y.cell 4
      have cx5 : w3.cell? ⟨gx, 5, none⟩ = some (.int .i64 x.quant) := k3x.cell 5
      have cy5 : w3.cell? ⟨gy, 5, none⟩ = some (.int .i64 y.quant) := k3y.cell 5
      have cx6 : w3.cell? ⟨gx, 6, none⟩ = some (.int .i64 x.slow) := k3x.cell 6
      have cy6 : w3.cell? ⟨gy, 6, none⟩ = some (.int .i64 y.slow) := k3y.cell 6
      have cx7 : w3.cell? ⟨gx, 7, none⟩ = some (.int .i64 x.ppm) := k3x.cell 7
      have cy7 : w3.cell? ⟨gy, 7, none⟩ = some (.int .i64 y.ppm) := k3y.cell 7
      have HI2 : Hid (bPw x = bPw y → x.sw = y.sw) := fun h => (congrArg (fun p : Pw => p.sw) h :)
      by_cases e2 : x.sw = y.sw
      rotate_left
      · have eb2 : (x.sw == y.sw) = false := by simpa using e2
        have HE := Lib.hid e2
        clear e2
        go_wp2_with fail
        go_ret
        exact SmPost.mk false rfl ⟨(fun h => by cases h), fun h => absurd (HI2.out h) HE.out⟩ B3
      have eb2 : (x.sw == y.sw) = true := by simpa using e2
      have HE2 := Lib.hid e2
      clear e2 HI2
      have HI3 : Hid (bPw x = bPw y → x.idle = y.idle) := fun h => (congrArg (fun p : Pw => p.idle) h :)
      by_cases e3 : x.idle = y.idle
      rotate_left
      · have eb3 : (x.idle == y.idle) = false := by simpa using e3
        have HE := Lib.hid e3
        clear e3
        go_wp2_with fail
        go_ret
        exact SmPost.mk false rfl ⟨(fun h => by cases h), fun h => absurd (HI3.out h) HE.out⟩ B3
      have eb3 : (x.idle == y.idle) = true := by simpa using e3
      have HE3 := Lib.hid e3
      clear e3 HI3
      have HI4 : Hid (bPw x = bPw y → x.change = y.change) := fun h => (congrArg (fun p : Pw => p.change) h :)
      by_cases e4 : x.change = y.change
      rotate_left
      · have eb4 : (x.change == y.change) = false := by simpa using e4
        have HE := Lib.hid e4
        clear e4
        go_wp2_with fail
        go_ret
        exact SmPost.mk false rfl ⟨(fun h => by cases h), fun h => absurd (HI4.out h) HE.out⟩ B3
      have eb4 : (x.change == y.change) = true := by simpa using e4
      have HE4 := Lib.hid e4
      clear e4 HI4
      have HI5 : Hid (bPw x = bPw y → x.quant = y.quant) := fun h => (congrArg (fun p : Pw => p.quant) h :)
      by_cases e5 : x.quant = y.quant
      rotate_left
      · have eb5 : (x.quant == y.quant) = false := by simpa using e5
        have HE := Lib.hid e5
        clear e5
        go_wp2_with fail
        go_ret
        exact SmPost.mk false rfl ⟨(fun h => by cases h), fun h => absurd (HI5.out h) HE.out⟩ B3
      have eb5 : (x.quant == y.quant) = true := by simpa using e5
      have HE5 := Lib.hid e5
      clear e5 HI5
      have HI6 : Hid (bPw x = bPw y → x.slow = y.slow) := fun h => (congrArg (fun p : Pw => p.slow) h :)
      by_cases e6 : x.slow = y.slow
      rotate_left
      · have eb6 : (x.slow == y.slow) = false := by simpa using e6
        have HE := Lib.hid e6
        clear e6
        go_wp2_with fail
        go_ret
        exact SmPost.mk false rfl ⟨(fun h => by cases h), fun h => absurd (HI6.out h) HE.out⟩ B3
      have eb6 : (x.slow == y.slow) = true := by simpa using e6
      have HE6 := Lib.hid e6
      clear e6 HI6
      have HI7 : Hid (bPw x = bPw y → x.ppm = y.ppm) := fun h => (congrArg (fun p : Pw => p.ppm) h :)
      by_cases e7 : x.ppm = y.ppm
      rotate_left
      · have eb7 : (x.ppm == y.ppm) = false := by simpa using e7
        have HE := Lib.hid e7
        clear e7
        go_wp2_with fail
        go_ret
        exact SmPost.mk false rfl ⟨(fun h => by cases h), fun h => absurd (HI7.out h) HE.out⟩ B3
      have eb7 : (x.ppm == y.ppm) = true := by simpa using e7
      have HE7 := Lib.hid e7
      clear e7 HI7
      go_wp2_with fail
      clear eb2
      clear eb3
      clear eb4
      clear eb5
      clear eb6
      clear eb7
      go_ret
      refine SmPost.mk true rfl ⟨fun _ => ?_, fun _ => rfl⟩ B3
      have r0 : bH x.levels = bH y.levels := bH_eq.2 (HB0.out.1 (by trivial))
      have r1 : bH x.naps = bH y.naps := bH_eq.2 (HB1.out.1 (by trivial))
      have r2 :  x.sw =  y.sw := (HE2.out)
      have r3 :  x.idle =  y.idle := (HE3.out)
      have r4 :  x.change =  y.change := (HE4.out)
      have r5 :  x.quant =  y.quant := (HE5.out)
      have r6 :  x.slow =  y.slow := (HE6.out)
      have r7 :  x.ppm =  y.ppm := (HE7.out)
      unfold bPw
      rw [r0, r1, r2, r3, r4, r5, r6, r7]
set_option maxRecDepth 100000 in
set_option maxHeartbeats 6400000 in
theorem same_Md {w : World} {x y : Md} (hx : rdMd.ok w x) (hy : rdMd.ok w y) : Calls Tryz.prog 47 #[.agg #[.int .i64 x.frame, .slice x.wins.A x.wins.l.length x.wins.c], .agg #[.int .i64 y.frame, .slice y.wins.A y.wins.l.length y.wins.c]] w (SmPost w (bMd x = bMd y)) := by
  have hb1 := (Below.refl w.heap.size w).alloc (Nat.le_refl _) (.cells #[.int .i64 x.frame, .slice x.wins.A x.wins.l.length x.wins.c] 58)
  have hb2 := hb1.alloc hb1.size (.cells #[.int .i64 y.frame, .slice y.wins.A y.wins.l.length y.wins.c] 58)
  have k1 := (Blk.new w 58 #[.int .i64 x.frame, .slice x.wins.A x.wins.l.length x.wins.c]).alloc (.cells #[.int .i64 y.frame, .slice y.wins.A y.wins.l.length y.wins.c] 58)
  have k2 := Blk.new (w.alloc (.cells #[.int .i64 x.frame, .slice x.wins.A x.wins.l.length x.wins.c] 58)) 58 #[.int .i64 y.frame, .slice y.wins.A y.wins.l.length y.wins.c]
  rw [World.size_alloc] at k2
  go_enter Tryz.func47, Tryz.ntmps47
  go_upto_region 1 with fail
  generalize (w.alloc (.cells #[.int .i64 x.frame, .slice x.wins.A x.wins.l.length x.wins.c] 58)).alloc (.cells #[.int .i64 y.frame, .slice y.wins.A y.wins.l.length y.wins.c] 58) = w1 at hb2 k1 k2 ⊢
  have HW := Lib.hid (rfl : w.heap.size = w.heap.size)
  obtain ⟨gx, hgx⟩ : ∃ gx, gx = w.heap.size := ⟨_, rfl⟩
  rw [← hgx] at k1 k2 ⊢
  obtain ⟨gy, hgy⟩ : ∃ gy, gy = gx + 1 := ⟨_, rfl⟩
  rw [← hgy] at k2 ⊢
  clear hgx hgy hb1
  have lx := k1.lt
  have ly := k2.lt
  have cx0 : w1.cell? ⟨gx, 0, none⟩ = some (.int .i64 x.frame) := k1.cell 0
  have cy0 : w1.cell? ⟨gy, 0, none⟩ = some (.int .i64 y.frame) := k2.cell 0
  have cx1 : w1.cell? ⟨gx, 1, none⟩ = some (.slice x.wins.A x.wins.l.length x.wins.c) := k1.cell 1
  have cy1 : w1.cell? ⟨gy, 1, none⟩ = some (.slice y.wins.A y.wins.l.length y.wins.c) := k2.cell 1
  have HI0 : Hid (bMd x = bMd y → x.frame = y.frame) := fun h => (congrArg (fun p : Md => p.frame) h :)
  by_cases e0 : x.frame = y.frame
  rotate_left
  · have eb0 : (x.frame == y.frame) = false := by simpa using e0
    have HE := Lib.hid e0
    clear e0
    go_wp2_with fail
    go_ret
    exact SmPost.mk false rfl ⟨(fun h => by cases h), fun h => absurd (HI0.out h) HE.out⟩ hb2
  have eb0 : (x.frame == y.frame) = true := by simpa using e0
  have HE0 := Lib.hid e0
  clear e0 HI0
  go_wp2_with fail
  clear eb0
  refine (equal_Wn (rdWns.keep hx.2 hb2) (rdWns.keep hy.2 hb2)).mono ?_
  rintro e _ ⟨b1, rfl, hb, q, rfl⟩
  have HB1 := Lib.hid hb
  have k2x := Blk.drewN k1 q
  have k2y := Blk.drewN k2 q
  have B2 := below_drewN hb2 q
  generalize w1.drewN q = w2 at k2x k2y B2 ⊢
  clear hb lx ly cx0 cy0 cx1 cy1 k1 k2 hb2
  cases b1 with
  | false =>
    go_wp2_with fail
    go_ret
    exact SmPost.mk false rfl ⟨(fun h => by cases h), fun h => absurd (HB1.out.2 ((congrArg (fun p : Md => p.wins.l) h :))) (by decide)⟩ B2
  | true =>
    have lx := k2x.lt
    have ly := k2y.lt
    go_wp2_with fail
    go_ret
    refine SmPost.mk true rfl ⟨fun _ => ?_, fun _ => rfl⟩ B2
    have r0 :  x.frame =  y.frame := (HE0.out)
    have r1 : bH x.wins = bH y.wins := bH_eq.2 (HB1.out.1 (by trivial))
    unfold bMd
    rw [r0, r1]
end Go.Proofs.YtahjnonkhbpnpaaGreat
/- conf's Same. Printed by wip/gen_smp.py. -/
namespace Go.Proofs.YtahjnonkhbpnpaaGreat
open Go.RowKit
set_option maxRecDepth 100000 in
set_option maxHeartbeats 6400000 in
theorem same_Pt {w : World} {x y : Pt} (hx : rdPt.ok w x) (hy : rdPt.ok w y) : Calls Tryz.prog 50 #[.agg #[.slice x.regs.A x.regs.l.length x.regs.c, .slice x.procs.A x.procs.l.length x.procs.c, .slice x.ports.A x.ports.l.length x.ports.c, .slice x.sems.A x.sems.l.length x.sems.c, .int .i64 x.flags, .slice x.pools.A x.pools.l.length x.pools.c, .slice x.slates.A x.slates.l.length x.slates.c, .int .i64 x.cap, .int .i64 x.bud, .int .i64 x.lad, .slice x.acts.A x.acts.l.length x.acts.c], .agg #[.slice y.regs.A y.regs.l.length y.regs.c, .slice y.procs.A y.procs.l.length y.procs.c, .slice y.ports.A y.ports.l.length y.ports.c, .slice y.sems.A y.sems.l.length y.sems.c, .int .i64 y.flags, .slice y.pools.A y.pools.l.length y.pools.c, .slice y.slates.A y.slates.l.length y.slates.c, .int .i64 y.cap, .int .i64 y.bud, .int .i64 y.lad, .slice y.acts.A y.acts.l.length y.acts.c]] w (SmPost w (bPt x = bPt y)) := by
  have hb1 := (Below.refl w.heap.size w).alloc (Nat.le_refl _) (.cells #[.slice x.regs.A x.regs.l.length x.regs.c, .slice x.procs.A x.procs.l.length x.procs.c, .slice x.ports.A x.ports.l.length x.ports.c, .slice x.sems.A x.sems.l.length x.sems.c, .int .i64 x.flags, .slice x.pools.A x.pools.l.length x.pools.c, .slice x.slates.A x.slates.l.length x.slates.c, .int .i64 x.cap, .int .i64 x.bud, .int .i64 x.lad, .slice x.acts.A x.acts.l.length x.acts.c] 55)
  have hb2 := hb1.alloc hb1.size (.cells #[.slice y.regs.A y.regs.l.length y.regs.c, .slice y.procs.A y.procs.l.length y.procs.c, .slice y.ports.A y.ports.l.length y.ports.c, .slice y.sems.A y.sems.l.length y.sems.c, .int .i64 y.flags, .slice y.pools.A y.pools.l.length y.pools.c, .slice y.slates.A y.slates.l.length y.slates.c, .int .i64 y.cap, .int .i64 y.bud, .int .i64 y.lad, .slice y.acts.A y.acts.l.length y.acts.c] 55)
  have k1 := (Blk.new w 55 #[.slice x.regs.A x.regs.l.length x.regs.c, .slice x.procs.A x.procs.l.length x.procs.c, .slice x.ports.A x.ports.l.length x.ports.c, .slice x.sems.A x.sems.l.length x.sems.c, .int .i64 x.flags, .slice x.pools.A x.pools.l.length x.pools.c, .slice x.slates.A x.slates.l.length x.slates.c, .int .i64 x.cap, .int .i64 x.bud, .int .i64 x.lad, .slice x.acts.A x.acts.l.length x.acts.c]).alloc (.cells #[.slice y.regs.A y.regs.l.length y.regs.c, .slice y.procs.A y.procs.l.length y.procs.c, .slice y.ports.A y.ports.l.length y.ports.c, .slice y.sems.A y.sems.l.length y.sems.c, .int .i64 y.flags, .slice y.pools.A y.pools.l.length y.pools.c, .slice y.slates.A y.slates.l.length y.slates.c, .int .i64 y.cap, .int .i64 y.bud, .int .i64 y.lad, .slice y.acts.A y.acts.l.length y.acts.c] 55)
  have k2 := Blk.new (w.alloc (.cells #[.slice x.regs.A x.regs.l.length x.regs.c, .slice x.procs.A x.procs.l.length x.procs.c, .slice x.ports.A x.ports.l.length x.ports.c, .slice x.sems.A x.sems.l.length x.sems.c, .int .i64 x.flags, .slice x.pools.A x.pools.l.length x.pools.c, .slice x.slates.A x.slates.l.length x.slates.c, .int .i64 x.cap, .int .i64 x.bud, .int .i64 x.lad, .slice x.acts.A x.acts.l.length x.acts.c] 55)) 55 #[.slice y.regs.A y.regs.l.length y.regs.c, .slice y.procs.A y.procs.l.length y.procs.c, .slice y.ports.A y.ports.l.length y.ports.c, .slice y.sems.A y.sems.l.length y.sems.c, .int .i64 y.flags, .slice y.pools.A y.pools.l.length y.pools.c, .slice y.slates.A y.slates.l.length y.slates.c, .int .i64 y.cap, .int .i64 y.bud, .int .i64 y.lad, .slice y.acts.A y.acts.l.length y.acts.c]
  rw [World.size_alloc] at k2
  go_enter Tryz.func50, Tryz.ntmps50
  go_upto_region 1 with fail
  generalize (w.alloc (.cells #[.slice x.regs.A x.regs.l.length x.regs.c, .slice x.procs.A x.procs.l.length x.procs.c, .slice x.ports.A x.ports.l.length x.ports.c, .slice x.sems.A x.sems.l.length x.sems.c, .int .i64 x.flags, .slice x.pools.A x.pools.l.length x.pools.c, .slice x.slates.A x.slates.l.length x.slates.c, .int .i64 x.cap, .int .i64 x.bud, .int .i64 x.lad, .slice x.acts.A x.acts.l.length x.acts.c] 55)).alloc (.cells #[.slice y.regs.A y.regs.l.length y.regs.c, .slice y.procs.A y.procs.l.length y.procs.c, .slice y.ports.A y.ports.l.length y.ports.c, .slice y.sems.A y.sems.l.length y.sems.c, .int .i64 y.flags, .slice y.pools.A y.pools.l.length y.pools.c, .slice y.slates.A y.slates.l.length y.slates.c, .int .i64 y.cap, .int .i64 y.bud, .int .i64 y.lad, .slice y.acts.A y.acts.l.length y.acts.c] 55) = w1 at hb2 k1 k2 ⊢
  have HW := Lib.hid (rfl : w.heap.size = w.heap.size)
  obtain ⟨gx, hgx⟩ : ∃ gx, gx = w.heap.size := ⟨_, rfl⟩
  rw [← hgx] at k1 k2 ⊢
  obtain ⟨gy, hgy⟩ : ∃ gy, gy = gx + 1 := ⟨_, rfl⟩
  rw [← hgy] at k2 ⊢
  clear hgx hgy hb1
  have lx := k1.lt
  have ly := k2.lt
  have cx0 : w1.cell? ⟨gx, 0, none⟩ = some (.slice x.regs.A x.regs.l.length x.regs.c) := k1.cell 0
  have cy0 : w1.cell? ⟨gy, 0, none⟩ = some (.slice y.regs.A y.regs.l.length y.regs.c) := k2.cell 0
  go_wp2_with fail
  refine (equal_Rg (rdRgs.keep hx.1 hb2) (rdRgs.keep hy.1 hb2)).mono ?_
  rintro e _ ⟨b0, rfl, hb, q, rfl⟩
  have HB0 := Lib.hid hb
  have k2x := Blk.drewN k1 q
  have k2y := Blk.drewN k2 q
  have B2 := below_drewN hb2 q
  generalize w1.drewN q = w2 at k2x k2y B2 ⊢
  clear hb lx ly cx0 cy0 k1 k2 hb2
  cases b0 with
  | false =>
    go_wp2_with fail
    go_ret
    exact SmPost.mk false rfl ⟨(fun h => by cases h), fun h => absurd (HB0.out.2 ((congrArg (fun p : Pt => p.regs.l) h :))) (by decide)⟩ B2
  | true =>
    have lx := k2x.lt
    have ly := k2y.lt
    have cx1 : w2.cell? ⟨gx, 1, none⟩ = some (.slice x.procs.A x.procs.l.length x.procs.c) := k2x.cell 1
    have cy1 : w2.cell? ⟨gy, 1, none⟩ = some (.slice y.procs.A y.procs.l.length y.procs.c) := k2y.cell 1
    go_wp2_with fail
    refine (equal_Pc (rdPcs.keep hx.2.1 B2) (rdPcs.keep hy.2.1 B2)).mono ?_
    rintro e _ ⟨b1, rfl, hb, q, rfl⟩
    have HB1 := Lib.hid hb
    have k3x := Blk.drewN k2x q
    have k3y := Blk.drewN k2y q
    have B3 := below_drewN B2 q
    generalize w2.drewN q = w3 at k3x k3y B3 ⊢
    clear hb lx ly cx1 cy1 k2x k2y B2
    cases b1 with
    | false =>
      go_wp2_with fail
      go_ret
      exact SmPost.mk false rfl ⟨(fun h => by cases h), fun h => absurd (HB1.out.2 ((congrArg (fun p : Pt => p.procs.l) h :))) (by decide)⟩ B3
    | true =>
      have lx := k3x.lt
      have ly := k3y.lt
      have cx2 : w3.cell? ⟨gx, 2, none⟩ = some (.slice x.ports.A x.ports.l.length x.ports.c) := k3x.cell 2
      have cy2 : w3.cell? ⟨gy, 2, none⟩ = some (.slice y.ports.A y.ports.l.length y.ports.c) := k3y.cell 2
      go_wp2_with fail
      refine (equal_Po (rdPos.keep hx.2.2.1 B3) (rdPos.keep hy.2.2.1 B3)).mono ?_
      rintro e _ ⟨b2, rfl, hb, q, rfl⟩
      have HB2 := Lib.hid hb
      have k4x := Blk.drewN k3x q
      have k4y := Blk.drewN k3y q
      have B4 := below_drewN B3 q
      generalize w3.drewN q = w4 at k4x k4y B4 ⊢
      clear hb lx ly cx2 cy2 k3x k3y B3
      cases b2 with
      | false =>
        go_wp2_with fail
        go_ret
        exact SmPost.mk false rfl ⟨(fun h => by cases h), fun h => absurd (HB2.out.2 ((congrArg (fun p : Pt => p.ports.l) h :))) (by decide)⟩ B4
      | true =>
        have lx := k4x.lt
        have ly := k4y.lt
        have cx3 : w4.cell? ⟨gx, 3, none⟩ = some (.slice x.sems.A x.sems.l.length x.sems.c) := k4x.cell 3
        have cy3 : w4.cell? ⟨gy, 3, none⟩ = some (.slice y.sems.A y.sems.l.length y.sems.c) := k4y.cell 3
        go_wp2_with fail
        refine (equal_Sm (rdSms.keep hx.2.2.2.1 B4) (rdSms.keep hy.2.2.2.1 B4)).mono ?_
        rintro e _ ⟨b3, rfl, hb, q, rfl⟩
        have HB3 := Lib.hid hb
        have k5x := Blk.drewN k4x q
        have k5y := Blk.drewN k4y q
        have B5 := below_drewN B4 q
        generalize w4.drewN q = w5 at k5x k5y B5 ⊢
        clear hb lx ly cx3 cy3 k4x k4y B4
        cases b3 with
        | false =>
          go_wp2_with fail
          go_ret
          exact SmPost.mk false rfl ⟨(fun h => by cases h), fun h => absurd (HB3.out.2 ((congrArg (fun p : Pt => p.sems.l) h :))) (by decide)⟩ B5
        | true =>
          have lx := k5x.lt
          have ly := k5y.lt
          have cx4 : w5.cell? ⟨gx, 4, none⟩ = some (.int .i64 x.flags) := k5x.cell 4
          have cy4 : w5.cell? ⟨gy, 4, none⟩ = some (.int .i64 y.flags) := k5y.cell 4
          have cx5 : w5.cell? ⟨gx, 5, none⟩ = some (.slice x.pools.A x.pools.l.length x.pools.c) := k5x.cell 5
          have cy5 : w5.cell? ⟨gy, 5, none⟩ = some (.slice y.pools.A y.pools.l.length y.pools.c) := k5y.cell 5
          have HI4 : Hid (bPt x = bPt y → x.flags = y.flags) := fun h => (congrArg (fun p : Pt => p.flags) h :)
          by_cases e4 : x.flags = y.flags
          rotate_left
          · have eb4 : (x.flags == y.flags) = false := by simpa using e4
            have HE := Lib.hid e4
            clear e4
            go_wp2_with fail
            go_ret
            exact SmPost.mk false rfl ⟨(fun h => by cases h), fun h => absurd (HI4.out h) HE.out⟩ B5
          have eb4 : (x.flags == y.flags) = true := by simpa using e4
          have HE4 := Lib.hid e4
          clear e4 HI4
          go_wp2_with fail
          clear eb4
          refine (equal_Pl (rdPls.keep hx.2.2.2.2.2.1 B5) (rdPls.keep hy.2.2.2.2.2.1 B5)).mono ?_
          rintro e _ ⟨b5, rfl, hb, q, rfl⟩
          have HB5 := Lib.hid hb
          have k6x := Blk.drewN k5x q
          have k6y := Blk.drewN k5y q
          have B6 := below_drewN B5 q
          generalize w5.drewN q = w6 at k6x k6y B6 ⊢
          clear hb lx ly cx4 cy4 cx5 cy5 k5x k5y B5
          cases b5 with
          | false =>
            go_wp2_with fail
            go_ret
            exact SmPost.mk false rfl ⟨(fun h => by cases h), fun h => absurd (HB5.out.2 ((congrArg (fun p : Pt => p.pools.l) h :))) (by decide)⟩ B6
          | true =>
            have lx := k6x.lt
            have ly := k6y.lt
            have cx6 : w6.cell? ⟨gx, 6, none⟩ = some (.slice x.slates.A x.slates.l.length x.slates.c) := k6x.cell 6
            have cy6 : w6.cell? ⟨gy, 6, none⟩ = some (.slice y.slates.A y.slates.l.length y.slates.c) := k6y.cell 6
            go_wp2_with fail
            refine (equal_Int (SlI.keep hx.2.2.2.2.2.2.1 B6) (SlI.keep hy.2.2.2.2.2.2.1 B6)).mono ?_
            rintro e _ ⟨b6, rfl, hb, q, rfl⟩
            have HB6 := Lib.hid hb
            have k7x := Blk.drewN k6x q
            have k7y := Blk.drewN k6y q
            have B7 := below_drewN B6 q
            generalize w6.drewN q = w7 at k7x k7y B7 ⊢
            clear hb lx ly cx6 cy6 k6x k6y B6
            cases b6 with
            | false =>
              go_wp2_with fail
              go_ret
              exact SmPost.mk false rfl ⟨(fun h => by cases h), fun h => absurd (HB6.out.2 ((congrArg (fun p : Pt => p.slates.l) h :))) (by decide)⟩ B7
            | true =>
              have lx := k7x.lt
              have ly := k7y.lt
              have cx7 : w7.cell? ⟨gx, 7, none⟩ = some (.int .i64 x.cap) := k7x.cell 7
              have cy7 : w7.cell? ⟨gy, 7, none⟩ = some (.int .i64 y.cap) := k7y.cell 7
              have cx8 : w7.cell? ⟨gx, 8, none⟩ = some (.int .i64 x.bud) := k7x.cell 8
              have cy8 : w7.cell? ⟨gy, 8, none⟩ = some (.int .i64 y.bud) := k7y.cell 8
              have cx9 : w7.cell? ⟨gx, 9, none⟩ = some (.int .i64 x.lad) := k7x.cell 9
              have cy9 : w7.cell? ⟨gy, 9, none⟩ = some (.int .i64 y.lad) := k7y.cell 9
              have cx10 : w7.cell? ⟨gx, 10, none⟩ = some (.slice x.acts.A x.acts.l.length x.acts.c) := k7x.cell 10
              have cy10 : w7.cell? ⟨gy, 10, none⟩ = some (.slice y.acts.A y.acts.l.length y.acts.c) := k7y.cell 10
              have HI7 : Hid (bPt x = bPt y → x.cap = y.cap) := fun h => (congrArg (fun p : Pt => p.cap) h :)
              by_cases e7 : x.cap = y.cap
              rotate_left
              · have eb7 : (x.cap == y.cap) = false := by simpa using e7
                have HE := Lib.hid e7
                clear e7
                go_wp2_with fail
                go_ret
                exact SmPost.mk false rfl ⟨(fun h => by cases h), fun h => absurd (HI7.out h) HE.out⟩ B7
              have eb7 : (x.cap == y.cap) = true := by simpa using e7
              have HE7 := Lib.hid e7
              clear e7 HI7
              have HI8 : Hid (bPt x = bPt y → x.bud = y.bud) := fun h => (congrArg (fun p : Pt => p.bud) h :)
              by_cases e8 : x.bud = y.bud
              rotate_left
              · have eb8 : (x.bud == y.bud) = false := by simpa using e8
                have HE := Lib.hid e8
                clear e8
                go_wp2_with fail
                go_ret
                exact SmPost.mk false rfl ⟨(fun h => by cases h), fun h => absurd (HI8.out h) HE.out⟩ B7
              have eb8 : (x.bud == y.bud) = true := by simpa using e8
              have HE8 := Lib.hid e8
              clear e8 HI8
              have HI9 : Hid (bPt x = bPt y → x.lad = y.lad) := fun h => (congrArg (fun p : Pt => p.lad) h :)
              by_cases e9 : x.lad = y.lad
              rotate_left
              · have eb9 : (x.lad == y.lad) = false := by simpa using e9
                have HE := Lib.hid e9
                clear e9
                go_wp2_with fail
                go_ret
                exact SmPost.mk false rfl ⟨(fun h => by cases h), fun h => absurd (HI9.out h) HE.out⟩ B7
              have eb9 : (x.lad == y.lad) = true := by simpa using e9
              have HE9 := Lib.hid e9
              clear e9 HI9
              go_wp2_with fail
              clear eb7
              clear eb8
              clear eb9
              refine (equal_Int (SlI.keep hx.2.2.2.2.2.2.2.2.2.2 B7) (SlI.keep hy.2.2.2.2.2.2.2.2.2.2 B7)).mono ?_
              rintro e _ ⟨b10, rfl, hb, q, rfl⟩
              have HB10 := Lib.hid hb
              have k8x := Blk.drewN k7x q
              have k8y := Blk.drewN k7y q
              have B8 := below_drewN B7 q
              generalize w7.drewN q = w8 at k8x k8y B8 ⊢
              clear hb lx ly cx7 cy7 cx8 cy8 cx9 cy9 cx10 cy10 k7x k7y B7
              cases b10 with
              | false =>
                go_wp2_with fail
                go_ret
                exact SmPost.mk false rfl ⟨(fun h => by cases h), fun h => absurd (HB10.out.2 ((congrArg (fun p : Pt => p.acts.l) h :))) (by decide)⟩ B8
              | true =>
                have lx := k8x.lt
                have ly := k8y.lt
                go_wp2_with fail
                go_ret
                refine SmPost.mk true rfl ⟨fun _ => ?_, fun _ => rfl⟩ B8
                have r0 : bH x.regs = bH y.regs := bH_eq.2 (HB0.out.1 (by trivial))
                have r1 : bH x.procs = bH y.procs := bH_eq.2 (HB1.out.1 (by trivial))
                have r2 : bH x.ports = bH y.ports := bH_eq.2 (HB2.out.1 (by trivial))
                have r3 : bH x.sems = bH y.sems := bH_eq.2 (HB3.out.1 (by trivial))
                have r4 :  x.flags =  y.flags := (HE4.out)
                have r5 : bH x.pools = bH y.pools := bH_eq.2 (HB5.out.1 (by trivial))
                have r6 : bH x.slates = bH y.slates := bH_eq.2 (HB6.out.1 (by trivial))
                have r7 :  x.cap =  y.cap := (HE7.out)
                have r8 :  x.bud =  y.bud := (HE8.out)
                have r9 :  x.lad =  y.lad := (HE9.out)
                have r10 : bH x.acts = bH y.acts := bH_eq.2 (HB10.out.1 (by trivial))
                unfold bPt
                rw [r0, r1, r2, r3, r4, r5, r6, r7, r8, r9, r10]
end Go.Proofs.YtahjnonkhbpnpaaGreat
/- conf's Same: EqualFunc. Printed by wip/gen_smp.py. -/
namespace Go.Proofs.YtahjnonkhbpnpaaGreat
open Go.RowKit
set_option maxRecDepth 100000 in
set_option maxHeartbeats 6400000 in
theorem eqf_Pt {w : World} {x y : Hd Pt} (hx : x.ok rdPt w) (hy : y.ok rdPt w) :
    Calls Tryz.prog 49 #[.slice x.A x.l.length x.c, .slice y.A y.l.length y.c, .func (.func 50) #[] #[]] w (SmPost w (x.l.map bPt = y.l.map bPt)) := by
  have hz := hx.1.len
  have hzy := hy.1.len
  by_cases hl : x.l.length = y.l.length
  · have HL := Lib.hid hl
    rw [← hl]
    obtain ⟨n, hn⟩ : ∃ n, n = x.l.length := ⟨_, rfl⟩
    rw [← hn]
    have HN := Lib.hid hn
    rw [← hn] at hz
    clear hn hl
    go_enter Tryz.func49, Tryz.ntmps49
    go_wp2_with fail
    obtain ⟨wo, hwo⟩ : ∃ wo : World, wo = w := ⟨_, rfl⟩
    have hB0 : Below w.heap.size w wo := by rw [hwo]; exact Below.refl _ _
    go_loopw [7, 8, 9, 17] (fun _ _ _ i wr => ∃ (k : Nat), k ≤ n ∧ i = .int .i64 (k : Int) ∧ Below w.heap.size w wr ∧ Hid ((x.l.take k).map bPt = (y.l.take k).map bPt)) (fun _ _ _ i _ => n - (intOf i).toNat)
    case atStart => exact ⟨0, Nat.zero_le _, rfl, Below.refl _ _, rfl⟩
    case round =>
      obtain ⟨k, hk, rfl, hbw, htk⟩ := hrel
      obtain ⟨wq, hwq⟩ : ∃ wq : World, wq = wr := ⟨_, rfl⟩
      by_cases hlt : k < n
      · have hlx : k < x.l.length := by rw [← HN.out]; exact hlt
        have hly : k < y.l.length := by rw [← HL.out, ← HN.out]; exact hlt
        have hxr := hx.keep hbw
        have hyr := hy.keep hbw
        obtain ⟨xb, xo, hxA, hxb, hxc⟩ := hxr.1.at_ Pt0 hlx
        obtain ⟨yb, yo, hyA, hyb, hyc⟩ := hyr.1.at_ (k := k) Pt0 hly
        have x0 : wr.cell? ⟨xb, xo + k * 11, none⟩ = some (.slice (atD Pt0 x.l k).regs.A (atD Pt0 x.l k).regs.l.length (atD Pt0 x.l k).regs.c) := hxc 0 _ rfl
        have x1 : wr.cell? ⟨xb, xo + k * 11 + 1, none⟩ = some (.slice (atD Pt0 x.l k).procs.A (atD Pt0 x.l k).procs.l.length (atD Pt0 x.l k).procs.c) := hxc 1 _ rfl
        have x2 : wr.cell? ⟨xb, xo + k * 11 + 2, none⟩ = some (.slice (atD Pt0 x.l k).ports.A (atD Pt0 x.l k).ports.l.length (atD Pt0 x.l k).ports.c) := hxc 2 _ rfl
        have x3 : wr.cell? ⟨xb, xo + k * 11 + 3, none⟩ = some (.slice (atD Pt0 x.l k).sems.A (atD Pt0 x.l k).sems.l.length (atD Pt0 x.l k).sems.c) := hxc 3 _ rfl
        have x4 : wr.cell? ⟨xb, xo + k * 11 + 4, none⟩ = some (.int .i64 (atD Pt0 x.l k).flags) := hxc 4 _ rfl
        have x5 : wr.cell? ⟨xb, xo + k * 11 + 5, none⟩ = some (.slice (atD Pt0 x.l k).pools.A (atD Pt0 x.l k).pools.l.length (atD Pt0 x.l k).pools.c) := hxc 5 _ rfl
        have x6 : wr.cell? ⟨xb, xo + k * 11 + 6, none⟩ = some (.slice (atD Pt0 x.l k).slates.A (atD Pt0 x.l k).slates.l.length (atD Pt0 x.l k).slates.c) := hxc 6 _ rfl
        have x7 : wr.cell? ⟨xb, xo + k * 11 + 7, none⟩ = some (.int .i64 (atD Pt0 x.l k).cap) := hxc 7 _ rfl
        have x8 : wr.cell? ⟨xb, xo + k * 11 + 8, none⟩ = some (.int .i64 (atD Pt0 x.l k).bud) := hxc 8 _ rfl
        have x9 : wr.cell? ⟨xb, xo + k * 11 + 9, none⟩ = some (.int .i64 (atD Pt0 x.l k).lad) := hxc 9 _ rfl
        have x10 : wr.cell? ⟨xb, xo + k * 11 + 10, none⟩ = some (.slice (atD Pt0 x.l k).acts.A (atD Pt0 x.l k).acts.l.length (atD Pt0 x.l k).acts.c) := hxc 10 _ rfl
        have y0 : wr.cell? ⟨yb, yo + k * 11, none⟩ = some (.slice (atD Pt0 y.l k).regs.A (atD Pt0 y.l k).regs.l.length (atD Pt0 y.l k).regs.c) := hyc 0 _ rfl
        have y1 : wr.cell? ⟨yb, yo + k * 11 + 1, none⟩ = some (.slice (atD Pt0 y.l k).procs.A (atD Pt0 y.l k).procs.l.length (atD Pt0 y.l k).procs.c) := hyc 1 _ rfl
        have y2 : wr.cell? ⟨yb, yo + k * 11 + 2, none⟩ = some (.slice (atD Pt0 y.l k).ports.A (atD Pt0 y.l k).ports.l.length (atD Pt0 y.l k).ports.c) := hyc 2 _ rfl
        have y3 : wr.cell? ⟨yb, yo + k * 11 + 3, none⟩ = some (.slice (atD Pt0 y.l k).sems.A (atD Pt0 y.l k).sems.l.length (atD Pt0 y.l k).sems.c) := hyc 3 _ rfl
        have y4 : wr.cell? ⟨yb, yo + k * 11 + 4, none⟩ = some (.int .i64 (atD Pt0 y.l k).flags) := hyc 4 _ rfl
        have y5 : wr.cell? ⟨yb, yo + k * 11 + 5, none⟩ = some (.slice (atD Pt0 y.l k).pools.A (atD Pt0 y.l k).pools.l.length (atD Pt0 y.l k).pools.c) := hyc 5 _ rfl
        have y6 : wr.cell? ⟨yb, yo + k * 11 + 6, none⟩ = some (.slice (atD Pt0 y.l k).slates.A (atD Pt0 y.l k).slates.l.length (atD Pt0 y.l k).slates.c) := hyc 6 _ rfl
        have y7 : wr.cell? ⟨yb, yo + k * 11 + 7, none⟩ = some (.int .i64 (atD Pt0 y.l k).cap) := hyc 7 _ rfl
        have y8 : wr.cell? ⟨yb, yo + k * 11 + 8, none⟩ = some (.int .i64 (atD Pt0 y.l k).bud) := hyc 8 _ rfl
        have y9 : wr.cell? ⟨yb, yo + k * 11 + 9, none⟩ = some (.int .i64 (atD Pt0 y.l k).lad) := hyc 9 _ rfl
        have y10 : wr.cell? ⟨yb, yo + k * 11 + 10, none⟩ = some (.slice (atD Pt0 y.l k).acts.A (atD Pt0 y.l k).acts.l.length (atD Pt0 y.l k).acts.c) := hyc 10 _ rfl
        have hou := hxr.2 _ (atD_mem (d := Pt0) hlx)
        have hov := hyr.2 _ (atD_mem (d := Pt0) hly)
        have HT : Hid ((x.l.take (k + 1)).map bPt = (y.l.take (k + 1)).map bPt ↔ bPt (atD Pt0 x.l k) = bPt (atD Pt0 y.l k)) := by
          unfold Hid
          rw [take_snocG Pt0 _ _ hlx, take_snocG Pt0 _ _ hly, List.map_append, List.map_append, htk.out]
          simp
        have HF : Hid (x.l.map bPt = y.l.map bPt → bPt (atD Pt0 x.l k) = bPt (atD Pt0 y.l k)) := fun h => by
          have := congrArg (fun l => l[k]?) h
          rw [List.getElem?_map, List.getElem?_map, List.getElem?_eq_getElem hlx, List.getElem?_eq_getElem hly] at this
          rw [atD_lt hlx, atD_lt hly]
          exact Option.some.inj this
        rw [hxA, hyA]
        clear hxc hyc hlx hly hxr hyr
        generalize atD Pt0 x.l k = u at x0 x1 x2 x3 x4 x5 x6 x7 x8 x9 x10 HT HF hou
        generalize atD Pt0 y.l k = v at y0 y1 y2 y3 y4 y5 y6 y7 y8 y9 y10 HT HF hov
        have hb1 := (Below.refl wr.heap.size wr).alloc (Nat.le_refl _) (.cells #[.slice u.regs.A u.regs.l.length u.regs.c, .slice u.procs.A u.procs.l.length u.procs.c, .slice u.ports.A u.ports.l.length u.ports.c, .slice u.sems.A u.sems.l.length u.sems.c, .int .i64 u.flags, .slice u.pools.A u.pools.l.length u.pools.c, .slice u.slates.A u.slates.l.length u.slates.c, .int .i64 u.cap, .int .i64 u.bud, .int .i64 u.lad, .slice u.acts.A u.acts.l.length u.acts.c] 55)
        have hb2 := hb1.alloc hb1.size (.cells #[.slice v.regs.A v.regs.l.length v.regs.c, .slice v.procs.A v.procs.l.length v.procs.c, .slice v.ports.A v.ports.l.length v.ports.c, .slice v.sems.A v.sems.l.length v.sems.c, .int .i64 v.flags, .slice v.pools.A v.pools.l.length v.pools.c, .slice v.slates.A v.slates.l.length v.slates.c, .int .i64 v.cap, .int .i64 v.bud, .int .i64 v.lad, .slice v.acts.A v.acts.l.length v.acts.c] 55)
        have k1 := (Blk.new wr 55 #[.slice u.regs.A u.regs.l.length u.regs.c, .slice u.procs.A u.procs.l.length u.procs.c, .slice u.ports.A u.ports.l.length u.ports.c, .slice u.sems.A u.sems.l.length u.sems.c, .int .i64 u.flags, .slice u.pools.A u.pools.l.length u.pools.c, .slice u.slates.A u.slates.l.length u.slates.c, .int .i64 u.cap, .int .i64 u.bud, .int .i64 u.lad, .slice u.acts.A u.acts.l.length u.acts.c]).alloc (.cells #[.slice v.regs.A v.regs.l.length v.regs.c, .slice v.procs.A v.procs.l.length v.procs.c, .slice v.ports.A v.ports.l.length v.ports.c, .slice v.sems.A v.sems.l.length v.sems.c, .int .i64 v.flags, .slice v.pools.A v.pools.l.length v.pools.c, .slice v.slates.A v.slates.l.length v.slates.c, .int .i64 v.cap, .int .i64 v.bud, .int .i64 v.lad, .slice v.acts.A v.acts.l.length v.acts.c] 55)
        have k2 := Blk.new (wr.alloc (.cells #[.slice u.regs.A u.regs.l.length u.regs.c, .slice u.procs.A u.procs.l.length u.procs.c, .slice u.ports.A u.ports.l.length u.ports.c, .slice u.sems.A u.sems.l.length u.sems.c, .int .i64 u.flags, .slice u.pools.A u.pools.l.length u.pools.c, .slice u.slates.A u.slates.l.length u.slates.c, .int .i64 u.cap, .int .i64 u.bud, .int .i64 u.lad, .slice u.acts.A u.acts.l.length u.acts.c] 55)) 55 #[.slice v.regs.A v.regs.l.length v.regs.c, .slice v.procs.A v.procs.l.length v.procs.c, .slice v.ports.A v.ports.l.length v.ports.c, .slice v.sems.A v.sems.l.length v.sems.c, .int .i64 v.flags, .slice v.pools.A v.pools.l.length v.pools.c, .slice v.slates.A v.slates.l.length v.slates.c, .int .i64 v.cap, .int .i64 v.bud, .int .i64 v.lad, .slice v.acts.A v.acts.l.length v.acts.c]
        rw [World.size_alloc] at k2
        have hyb2 : yb < wr.heap.size + 1 := by omega
        go_upto_region 7 with fail
        generalize (wr.alloc (.cells #[.slice u.regs.A u.regs.l.length u.regs.c, .slice u.procs.A u.procs.l.length u.procs.c, .slice u.ports.A u.ports.l.length u.ports.c, .slice u.sems.A u.sems.l.length u.sems.c, .int .i64 u.flags, .slice u.pools.A u.pools.l.length u.pools.c, .slice u.slates.A u.slates.l.length u.slates.c, .int .i64 u.cap, .int .i64 u.bud, .int .i64 u.lad, .slice u.acts.A u.acts.l.length u.acts.c] 55)).alloc (.cells #[.slice v.regs.A v.regs.l.length v.regs.c, .slice v.procs.A v.procs.l.length v.procs.c, .slice v.ports.A v.ports.l.length v.ports.c, .slice v.sems.A v.sems.l.length v.sems.c, .int .i64 v.flags, .slice v.pools.A v.pools.l.length v.pools.c, .slice v.slates.A v.slates.l.length v.slates.c, .int .i64 v.cap, .int .i64 v.bud, .int .i64 v.lad, .slice v.acts.A v.acts.l.length v.acts.c] 55) = w1 at hb2 k1 k2 ⊢
        obtain ⟨gx, hgx⟩ : ∃ gx, gx = wr.heap.size := ⟨_, rfl⟩
        rw [← hgx] at k1 k2 ⊢
        obtain ⟨gy, hgy⟩ : ∃ gy, gy = gx + 1 := ⟨_, rfl⟩
        rw [← hgy] at k2 ⊢
        have hB1 := hbw.trans (hb2.mono hbw.size)
        have hou1 := rdPt.keep hou hb2
        have hov1 := rdPt.keep hov hb2
        clear hgx hgy hb1 hyb2 x0 x1 x2 x3 x4 x5 x6 x7 x8 x9 x10 y0 y1 y2 y3 y4 y5 y6 y7 y8 y9 y10
        have lx := k1.lt
        have ly := k2.lt
        have cx0 : w1.cell? ⟨gx, 0, none⟩ = some (.slice u.regs.A u.regs.l.length u.regs.c) := k1.cell 0
        have cy0 : w1.cell? ⟨gy, 0, none⟩ = some (.slice v.regs.A v.regs.l.length v.regs.c) := k2.cell 0
        have cx1 : w1.cell? ⟨gx, 1, none⟩ = some (.slice u.procs.A u.procs.l.length u.procs.c) := k1.cell 1
        have cy1 : w1.cell? ⟨gy, 1, none⟩ = some (.slice v.procs.A v.procs.l.length v.procs.c) := k2.cell 1
        have cx2 : w1.cell? ⟨gx, 2, none⟩ = some (.slice u.ports.A u.ports.l.length u.ports.c) := k1.cell 2
        have cy2 : w1.cell? ⟨gy, 2, none⟩ = some (.slice v.ports.A v.ports.l.length v.ports.c) := k2.cell 2
        have cx3 : w1.cell? ⟨gx, 3, none⟩ = some (.slice u.sems.A u.sems.l.length u.sems.c) := k1.cell 3
        have cy3 : w1.cell? ⟨gy, 3, none⟩ = some (.slice v.sems.A v.sems.l.length v.sems.c) := k2.cell 3
        have cx4 : w1.cell? ⟨gx, 4, none⟩ = some (.int .i64 u.flags) := k1.cell 4
        have cy4 : w1.cell? ⟨gy, 4, none⟩ = some (.int .i64 v.flags) := k2.cell 4
        have cx5 : w1.cell? ⟨gx, 5, none⟩ = some (.slice u.pools.A u.pools.l.length u.pools.c) := k1.cell 5
        have cy5 : w1.cell? ⟨gy, 5, none⟩ = some (.slice v.pools.A v.pools.l.length v.pools.c) := k2.cell 5
        have cx6 : w1.cell? ⟨gx, 6, none⟩ = some (.slice u.slates.A u.slates.l.length u.slates.c) := k1.cell 6
        have cy6 : w1.cell? ⟨gy, 6, none⟩ = some (.slice v.slates.A v.slates.l.length v.slates.c) := k2.cell 6
        have cx7 : w1.cell? ⟨gx, 7, none⟩ = some (.int .i64 u.cap) := k1.cell 7
        have cy7 : w1.cell? ⟨gy, 7, none⟩ = some (.int .i64 v.cap) := k2.cell 7
        have cx8 : w1.cell? ⟨gx, 8, none⟩ = some (.int .i64 u.bud) := k1.cell 8
        have cy8 : w1.cell? ⟨gy, 8, none⟩ = some (.int .i64 v.bud) := k2.cell 8
        have cx9 : w1.cell? ⟨gx, 9, none⟩ = some (.int .i64 u.lad) := k1.cell 9
        have cy9 : w1.cell? ⟨gy, 9, none⟩ = some (.int .i64 v.lad) := k2.cell 9
        have cx10 : w1.cell? ⟨gx, 10, none⟩ = some (.slice u.acts.A u.acts.l.length u.acts.c) := k1.cell 10
        have cy10 : w1.cell? ⟨gy, 10, none⟩ = some (.slice v.acts.A v.acts.l.length v.acts.c) := k2.cell 10
        go_wp2_with fail
        refine (same_Pt hou1 hov1).mono ?_
        rintro e w2 ⟨b, rfl, hb, hbl⟩
        have HB := Lib.hid hb
        clear hb cx0 cy0 cx1 cy1 cx2 cy2 cx3 cy3 cx4 cy4 cx5 cy5 cx6 cy6 cx7 cy7 cx8 cy8 cx9 cy9 cx10 cy10
        have hB2 := hB1.trans (hbl.mono hB1.size)
        cases b with
        | false =>
          go_wp2_with fail
          go_ret
          exact SmPost.mk false rfl ⟨(fun h => by cases h), fun h => absurd (HB.out.2 (HF.out h)) (by decide)⟩ hB2
        | true =>
          go_wp2_with fail
          exact ⟨⟨k + 1, by omega, by go_num, hB2, HT.out.2 (HB.out.1 (by first | rfl | trivial))⟩, by simp [intOf]; omega⟩
      · obtain rfl : k = n := by omega
        have HE : Hid (x.l.map bPt = y.l.map bPt) := by
          have := htk.out
          rw [List.take_of_length_le (by rw [← HN.out]; exact Nat.le_refl _), List.take_of_length_le (by rw [← HL.out, ← HN.out]; exact Nat.le_refl _)] at this
          exact this
        go_wp2_with fail
        go_ret
        exact SmPost.mk true rfl ⟨fun _ => HE.out, fun _ => rfl⟩ hbw
  · have hne : ((x.l.length : Int) != (y.l.length : Int)) = true := by simp; omega
    have HL := Lib.hid hl
    clear hl
    go_enter Tryz.func49, Tryz.ntmps49
    go_wp2_with fail
    go_ret
    exact SmPost.mk false rfl ⟨fun h => (by cases h), fun h => absurd (by have := congrArg List.length h; simpa using this) HL.out⟩ (Below.refl _ _)
set_option maxRecDepth 100000 in
set_option maxHeartbeats 6400000 in
theorem eqf_Md {w : World} {x y : Hd Md} (hx : x.ok rdMd w) (hy : y.ok rdMd w) :
    Calls Tryz.prog 52 #[.slice x.A x.l.length x.c, .slice y.A y.l.length y.c, .func (.func 47) #[] #[]] w (SmPost w (x.l.map bMd = y.l.map bMd)) := by
  have hz := hx.1.len
  have hzy := hy.1.len
  by_cases hl : x.l.length = y.l.length
  · have HL := Lib.hid hl
    rw [← hl]
    obtain ⟨n, hn⟩ : ∃ n, n = x.l.length := ⟨_, rfl⟩
    rw [← hn]
    have HN := Lib.hid hn
    rw [← hn] at hz
    clear hn hl
    go_enter Tryz.func52, Tryz.ntmps52
    go_wp2_with fail
    obtain ⟨wo, hwo⟩ : ∃ wo : World, wo = w := ⟨_, rfl⟩
    have hB0 : Below w.heap.size w wo := by rw [hwo]; exact Below.refl _ _
    go_loopw [7, 8, 9, 17] (fun _ _ _ i wr => ∃ (k : Nat), k ≤ n ∧ i = .int .i64 (k : Int) ∧ Below w.heap.size w wr ∧ Hid ((x.l.take k).map bMd = (y.l.take k).map bMd)) (fun _ _ _ i _ => n - (intOf i).toNat)
    case atStart => exact ⟨0, Nat.zero_le _, rfl, Below.refl _ _, rfl⟩
    case round =>
      obtain ⟨k, hk, rfl, hbw, htk⟩ := hrel
      obtain ⟨wq, hwq⟩ : ∃ wq : World, wq = wr := ⟨_, rfl⟩
      by_cases hlt : k < n
      · have hlx : k < x.l.length := by rw [← HN.out]; exact hlt
        have hly : k < y.l.length := by rw [← HL.out, ← HN.out]; exact hlt
        have hxr := hx.keep hbw
        have hyr := hy.keep hbw
        obtain ⟨xb, xo, hxA, hxb, hxc⟩ := hxr.1.at_ Md0 hlx
        obtain ⟨yb, yo, hyA, hyb, hyc⟩ := hyr.1.at_ (k := k) Md0 hly
        have x0 : wr.cell? ⟨xb, xo + k * 2, none⟩ = some (.int .i64 (atD Md0 x.l k).frame) := hxc 0 _ rfl
        have x1 : wr.cell? ⟨xb, xo + k * 2 + 1, none⟩ = some (.slice (atD Md0 x.l k).wins.A (atD Md0 x.l k).wins.l.length (atD Md0 x.l k).wins.c) := hxc 1 _ rfl
        have y0 : wr.cell? ⟨yb, yo + k * 2, none⟩ = some (.int .i64 (atD Md0 y.l k).frame) := hyc 0 _ rfl
        have y1 : wr.cell? ⟨yb, yo + k * 2 + 1, none⟩ = some (.slice (atD Md0 y.l k).wins.A (atD Md0 y.l k).wins.l.length (atD Md0 y.l k).wins.c) := hyc 1 _ rfl
        have hou := hxr.2 _ (atD_mem (d := Md0) hlx)
        have hov := hyr.2 _ (atD_mem (d := Md0) hly)
        have HT : Hid ((x.l.take (k + 1)).map bMd = (y.l.take (k + 1)).map bMd ↔ bMd (atD Md0 x.l k) = bMd (atD Md0 y.l k)) := by
          unfold Hid
          rw [take_snocG Md0 _ _ hlx, take_snocG Md0 _ _ hly, List.map_append, List.map_append, htk.out]
          simp
        have HF : Hid (x.l.map bMd = y.l.map bMd → bMd (atD Md0 x.l k) = bMd (atD Md0 y.l k)) := fun h => by
          have := congrArg (fun l => l[k]?) h
          rw [List.getElem?_map, List.getElem?_map, List.getElem?_eq_getElem hlx, List.getElem?_eq_getElem hly] at this
          rw [atD_lt hlx, atD_lt hly]
          exact Option.some.inj this
        rw [hxA, hyA]
        clear hxc hyc hlx hly hxr hyr
        generalize atD Md0 x.l k = u at x0 x1 HT HF hou
        generalize atD Md0 y.l k = v at y0 y1 HT HF hov
        have hb1 := (Below.refl wr.heap.size wr).alloc (Nat.le_refl _) (.cells #[.int .i64 u.frame, .slice u.wins.A u.wins.l.length u.wins.c] 58)
        have hb2 := hb1.alloc hb1.size (.cells #[.int .i64 v.frame, .slice v.wins.A v.wins.l.length v.wins.c] 58)
        have k1 := (Blk.new wr 58 #[.int .i64 u.frame, .slice u.wins.A u.wins.l.length u.wins.c]).alloc (.cells #[.int .i64 v.frame, .slice v.wins.A v.wins.l.length v.wins.c] 58)
        have k2 := Blk.new (wr.alloc (.cells #[.int .i64 u.frame, .slice u.wins.A u.wins.l.length u.wins.c] 58)) 58 #[.int .i64 v.frame, .slice v.wins.A v.wins.l.length v.wins.c]
        rw [World.size_alloc] at k2
        have hyb2 : yb < wr.heap.size + 1 := by omega
        go_upto_region 7 with fail
        generalize (wr.alloc (.cells #[.int .i64 u.frame, .slice u.wins.A u.wins.l.length u.wins.c] 58)).alloc (.cells #[.int .i64 v.frame, .slice v.wins.A v.wins.l.length v.wins.c] 58) = w1 at hb2 k1 k2 ⊢
        obtain ⟨gx, hgx⟩ : ∃ gx, gx = wr.heap.size := ⟨_, rfl⟩
        rw [← hgx] at k1 k2 ⊢
        obtain ⟨gy, hgy⟩ : ∃ gy, gy = gx + 1 := ⟨_, rfl⟩
        rw [← hgy] at k2 ⊢
        have hB1 := hbw.trans (hb2.mono hbw.size)
        have hou1 := rdMd.keep hou hb2
        have hov1 := rdMd.keep hov hb2
        clear hgx hgy hb1 hyb2 x0 x1 y0 y1
        have lx := k1.lt
        have ly := k2.lt
        have cx0 : w1.cell? ⟨gx, 0, none⟩ = some (.int .i64 u.frame) := k1.cell 0
        have cy0 : w1.cell? ⟨gy, 0, none⟩ = some (.int .i64 v.frame) := k2.cell 0
        have cx1 : w1.cell? ⟨gx, 1, none⟩ = some (.slice u.wins.A u.wins.l.length u.wins.c) := k1.cell 1
        have cy1 : w1.cell? ⟨gy, 1, none⟩ = some (.slice v.wins.A v.wins.l.length v.wins.c) := k2.cell 1
        go_wp2_with fail
        refine (same_Md hou1 hov1).mono ?_
        rintro e w2 ⟨b, rfl, hb, hbl⟩
        have HB := Lib.hid hb
        clear hb cx0 cy0 cx1 cy1
        have hB2 := hB1.trans (hbl.mono hB1.size)
        cases b with
        | false =>
          go_wp2_with fail
          go_ret
          exact SmPost.mk false rfl ⟨(fun h => by cases h), fun h => absurd (HB.out.2 (HF.out h)) (by decide)⟩ hB2
        | true =>
          go_wp2_with fail
          exact ⟨⟨k + 1, by omega, by go_num, hB2, HT.out.2 (HB.out.1 (by first | rfl | trivial))⟩, by simp [intOf]; omega⟩
      · obtain rfl : k = n := by omega
        have HE : Hid (x.l.map bMd = y.l.map bMd) := by
          have := htk.out
          rw [List.take_of_length_le (by rw [← HN.out]; exact Nat.le_refl _), List.take_of_length_le (by rw [← HL.out, ← HN.out]; exact Nat.le_refl _)] at this
          exact this
        go_wp2_with fail
        go_ret
        exact SmPost.mk true rfl ⟨fun _ => HE.out, fun _ => rfl⟩ hbw
  · have hne : ((x.l.length : Int) != (y.l.length : Int)) = true := by simp; omega
    have HL := Lib.hid hl
    clear hl
    go_enter Tryz.func52, Tryz.ntmps52
    go_wp2_with fail
    go_ret
    exact SmPost.mk false rfl ⟨fun h => (by cases h), fun h => absurd (by have := congrArg List.length h; simpa using this) HL.out⟩ (Below.refl _ _)
end Go.Proofs.YtahjnonkhbpnpaaGreat
/- conf's Same. Printed by wip/gen_smp.py. -/
namespace Go.Proofs.YtahjnonkhbpnpaaGreat
open Go.RowKit
set_option maxRecDepth 100000 in
set_option maxHeartbeats 6400000 in
theorem same_Cf {w : World} {x y : Cf} (hx : rdCf.ok w x) (hy : rdCf.ok w y) : Calls Tryz.prog 14 #[.agg #[.slice x.parts.A x.parts.l.length x.parts.c, .slice x.chans.A x.chans.l.length x.chans.c, .slice x.modes.A x.modes.l.length x.modes.c, .slice x.pw.levels.A x.pw.levels.l.length x.pw.levels.c, .slice x.pw.naps.A x.pw.naps.l.length x.pw.naps.c, .int .i64 x.pw.sw, .int .i64 x.pw.idle, .int .i64 x.pw.change, .int .i64 x.pw.quant, .int .i64 x.pw.slow, .int .i64 x.pw.ppm, .slice x.shed.down.A x.shed.down.l.length x.shed.down.c, .slice x.shed.up.A x.shed.up.l.length x.shed.up.c], .agg #[.slice y.parts.A y.parts.l.length y.parts.c, .slice y.chans.A y.chans.l.length y.chans.c, .slice y.modes.A y.modes.l.length y.modes.c, .slice y.pw.levels.A y.pw.levels.l.length y.pw.levels.c, .slice y.pw.naps.A y.pw.naps.l.length y.pw.naps.c, .int .i64 y.pw.sw, .int .i64 y.pw.idle, .int .i64 y.pw.change, .int .i64 y.pw.quant, .int .i64 y.pw.slow, .int .i64 y.pw.ppm, .slice y.shed.down.A y.shed.down.l.length y.shed.down.c, .slice y.shed.up.A y.shed.up.l.length y.shed.up.c]] w (SmPost w (bCf x = bCf y)) := by
  have hb1 := (Below.refl w.heap.size w).alloc (Nat.le_refl _) (.cells #[.slice x.parts.A x.parts.l.length x.parts.c, .slice x.chans.A x.chans.l.length x.chans.c, .slice x.modes.A x.modes.l.length x.modes.c, .slice x.pw.levels.A x.pw.levels.l.length x.pw.levels.c, .slice x.pw.naps.A x.pw.naps.l.length x.pw.naps.c, .int .i64 x.pw.sw, .int .i64 x.pw.idle, .int .i64 x.pw.change, .int .i64 x.pw.quant, .int .i64 x.pw.slow, .int .i64 x.pw.ppm, .slice x.shed.down.A x.shed.down.l.length x.shed.down.c, .slice x.shed.up.A x.shed.up.l.length x.shed.up.c] 33)
  have hb2 := hb1.alloc hb1.size (.cells #[.slice y.parts.A y.parts.l.length y.parts.c, .slice y.chans.A y.chans.l.length y.chans.c, .slice y.modes.A y.modes.l.length y.modes.c, .slice y.pw.levels.A y.pw.levels.l.length y.pw.levels.c, .slice y.pw.naps.A y.pw.naps.l.length y.pw.naps.c, .int .i64 y.pw.sw, .int .i64 y.pw.idle, .int .i64 y.pw.change, .int .i64 y.pw.quant, .int .i64 y.pw.slow, .int .i64 y.pw.ppm, .slice y.shed.down.A y.shed.down.l.length y.shed.down.c, .slice y.shed.up.A y.shed.up.l.length y.shed.up.c] 33)
  have k1 := (Blk.new w 33 #[.slice x.parts.A x.parts.l.length x.parts.c, .slice x.chans.A x.chans.l.length x.chans.c, .slice x.modes.A x.modes.l.length x.modes.c, .slice x.pw.levels.A x.pw.levels.l.length x.pw.levels.c, .slice x.pw.naps.A x.pw.naps.l.length x.pw.naps.c, .int .i64 x.pw.sw, .int .i64 x.pw.idle, .int .i64 x.pw.change, .int .i64 x.pw.quant, .int .i64 x.pw.slow, .int .i64 x.pw.ppm, .slice x.shed.down.A x.shed.down.l.length x.shed.down.c, .slice x.shed.up.A x.shed.up.l.length x.shed.up.c]).alloc (.cells #[.slice y.parts.A y.parts.l.length y.parts.c, .slice y.chans.A y.chans.l.length y.chans.c, .slice y.modes.A y.modes.l.length y.modes.c, .slice y.pw.levels.A y.pw.levels.l.length y.pw.levels.c, .slice y.pw.naps.A y.pw.naps.l.length y.pw.naps.c, .int .i64 y.pw.sw, .int .i64 y.pw.idle, .int .i64 y.pw.change, .int .i64 y.pw.quant, .int .i64 y.pw.slow, .int .i64 y.pw.ppm, .slice y.shed.down.A y.shed.down.l.length y.shed.down.c, .slice y.shed.up.A y.shed.up.l.length y.shed.up.c] 33)
  have k2 := Blk.new (w.alloc (.cells #[.slice x.parts.A x.parts.l.length x.parts.c, .slice x.chans.A x.chans.l.length x.chans.c, .slice x.modes.A x.modes.l.length x.modes.c, .slice x.pw.levels.A x.pw.levels.l.length x.pw.levels.c, .slice x.pw.naps.A x.pw.naps.l.length x.pw.naps.c, .int .i64 x.pw.sw, .int .i64 x.pw.idle, .int .i64 x.pw.change, .int .i64 x.pw.quant, .int .i64 x.pw.slow, .int .i64 x.pw.ppm, .slice x.shed.down.A x.shed.down.l.length x.shed.down.c, .slice x.shed.up.A x.shed.up.l.length x.shed.up.c] 33)) 33 #[.slice y.parts.A y.parts.l.length y.parts.c, .slice y.chans.A y.chans.l.length y.chans.c, .slice y.modes.A y.modes.l.length y.modes.c, .slice y.pw.levels.A y.pw.levels.l.length y.pw.levels.c, .slice y.pw.naps.A y.pw.naps.l.length y.pw.naps.c, .int .i64 y.pw.sw, .int .i64 y.pw.idle, .int .i64 y.pw.change, .int .i64 y.pw.quant, .int .i64 y.pw.slow, .int .i64 y.pw.ppm, .slice y.shed.down.A y.shed.down.l.length y.shed.down.c, .slice y.shed.up.A y.shed.up.l.length y.shed.up.c]
  rw [World.size_alloc] at k2
  go_enter Tryz.func14, Tryz.ntmps14
  go_upto_region 1 with fail
  generalize (w.alloc (.cells #[.slice x.parts.A x.parts.l.length x.parts.c, .slice x.chans.A x.chans.l.length x.chans.c, .slice x.modes.A x.modes.l.length x.modes.c, .slice x.pw.levels.A x.pw.levels.l.length x.pw.levels.c, .slice x.pw.naps.A x.pw.naps.l.length x.pw.naps.c, .int .i64 x.pw.sw, .int .i64 x.pw.idle, .int .i64 x.pw.change, .int .i64 x.pw.quant, .int .i64 x.pw.slow, .int .i64 x.pw.ppm, .slice x.shed.down.A x.shed.down.l.length x.shed.down.c, .slice x.shed.up.A x.shed.up.l.length x.shed.up.c] 33)).alloc (.cells #[.slice y.parts.A y.parts.l.length y.parts.c, .slice y.chans.A y.chans.l.length y.chans.c, .slice y.modes.A y.modes.l.length y.modes.c, .slice y.pw.levels.A y.pw.levels.l.length y.pw.levels.c, .slice y.pw.naps.A y.pw.naps.l.length y.pw.naps.c, .int .i64 y.pw.sw, .int .i64 y.pw.idle, .int .i64 y.pw.change, .int .i64 y.pw.quant, .int .i64 y.pw.slow, .int .i64 y.pw.ppm, .slice y.shed.down.A y.shed.down.l.length y.shed.down.c, .slice y.shed.up.A y.shed.up.l.length y.shed.up.c] 33) = w1 at hb2 k1 k2 ⊢
  have HW := Lib.hid (rfl : w.heap.size = w.heap.size)
  obtain ⟨gx, hgx⟩ : ∃ gx, gx = w.heap.size := ⟨_, rfl⟩
  rw [← hgx] at k1 k2 ⊢
  obtain ⟨gy, hgy⟩ : ∃ gy, gy = gx + 1 := ⟨_, rfl⟩
  rw [← hgy] at k2 ⊢
  clear hgx hgy hb1
  have lx := k1.lt
  have ly := k2.lt
  have cx0 : w1.cell? ⟨gx, 0, none⟩ = some (.slice x.parts.A x.parts.l.length x.parts.c) := k1.cell 0
  have cy0 : w1.cell? ⟨gy, 0, none⟩ = some (.slice y.parts.A y.parts.l.length y.parts.c) := k2.cell 0
  go_wp2_with fail
  refine (eqf_Pt (rdPts.keep hx.1 hb2) (rdPts.keep hy.1 hb2)).mono ?_
  rintro e w2 ⟨b0, rfl, hb, hbl⟩
  have HB0 := Lib.hid hb
  have k2x := k1.keep hbl
  have k2y := k2.keep hbl
  have B2 := hb2.trans (hbl.mono hb2.size)
  clear hbl
  clear hb lx ly cx0 cy0 k1 k2 hb2
  cases b0 with
  | false =>
    go_wp2_with fail
    go_ret
    exact SmPost.mk false rfl ⟨(fun h => by cases h), fun h => absurd (HB0.out.2 ((congrArg (fun p : Cf => p.parts.l) h :))) (by decide)⟩ B2
  | true =>
    have lx := k2x.lt
    have ly := k2y.lt
    have cx1 : w2.cell? ⟨gx, 1, none⟩ = some (.slice x.chans.A x.chans.l.length x.chans.c) := k2x.cell 1
    have cy1 : w2.cell? ⟨gy, 1, none⟩ = some (.slice y.chans.A y.chans.l.length y.chans.c) := k2y.cell 1
    go_wp2_with fail
    refine (equal_Ch (rdChs.keep hx.2.1 B2) (rdChs.keep hy.2.1 B2)).mono ?_
    rintro e _ ⟨b1, rfl, hb, q, rfl⟩
    have HB1 := Lib.hid hb
    have k3x := Blk.drewN k2x q
    have k3y := Blk.drewN k2y q
    have B3 := below_drewN B2 q
    generalize w2.drewN q = w3 at k3x k3y B3 ⊢
    clear hb lx ly cx1 cy1 k2x k2y B2
    cases b1 with
    | false =>
      go_wp2_with fail
      go_ret
      exact SmPost.mk false rfl ⟨(fun h => by cases h), fun h => absurd (HB1.out.2 ((congrArg (fun p : Cf => p.chans.l) h :))) (by decide)⟩ B3
    | true =>
      have lx := k3x.lt
      have ly := k3y.lt
      have cx2 : w3.cell? ⟨gx, 2, none⟩ = some (.slice x.modes.A x.modes.l.length x.modes.c) := k3x.cell 2
      have cy2 : w3.cell? ⟨gy, 2, none⟩ = some (.slice y.modes.A y.modes.l.length y.modes.c) := k3y.cell 2
      go_wp2_with fail
      refine (eqf_Md (rdMds.keep hx.2.2.1 B3) (rdMds.keep hy.2.2.1 B3)).mono ?_
      rintro e w4 ⟨b2, rfl, hb, hbl⟩
      have HB2 := Lib.hid hb
      have k4x := k3x.keep hbl
      have k4y := k3y.keep hbl
      have B4 := B3.trans (hbl.mono B3.size)
      clear hbl
      clear hb lx ly cx2 cy2 k3x k3y B3
      cases b2 with
      | false =>
        go_wp2_with fail
        go_ret
        exact SmPost.mk false rfl ⟨(fun h => by cases h), fun h => absurd (HB2.out.2 ((congrArg (fun p : Cf => p.modes.l) h :))) (by decide)⟩ B4
      | true =>
        have lx := k4x.lt
        have ly := k4y.lt
        have cx3 : w4.cell? ⟨gx, 3, none⟩ = some (.slice x.pw.levels.A x.pw.levels.l.length x.pw.levels.c) := k4x.cell 3
        have cy3 : w4.cell? ⟨gy, 3, none⟩ = some (.slice y.pw.levels.A y.pw.levels.l.length y.pw.levels.c) := k4y.cell 3
        have cx4 : w4.cell? ⟨gx, 4, none⟩ = some (.slice x.pw.naps.A x.pw.naps.l.length x.pw.naps.c) := k4x.cell 4
        have cy4 : w4.cell? ⟨gy, 4, none⟩ = some (.slice y.pw.naps.A y.pw.naps.l.length y.pw.naps.c) := k4y.cell 4
        have cx5 : w4.cell? ⟨gx, 5, none⟩ = some (.int .i64 x.pw.sw) := k4x.cell 5
        have cy5 : w4.cell? ⟨gy, 5, none⟩ = some (.int .i64 y.pw.sw) := k4y.cell 5
        have cx6 : w4.cell? ⟨gx, 6, none⟩ = some (.int .i64 x.pw.idle) := k4x.cell 6
        have cy6 : w4.cell? ⟨gy, 6, none⟩ = some (.int .i64 y.pw.idle) := k4y.cell 6
        have cx7 : w4.cell? ⟨gx, 7, none⟩ = some (.int .i64 x.pw.change) := k4x.cell 7
        have cy7 : w4.cell? ⟨gy, 7, none⟩ = some (.int .i64 y.pw.change) := k4y.cell 7
        have cx8 : w4.cell? ⟨gx, 8, none⟩ = some (.int .i64 x.pw.quant) := k4x.cell 8
        have cy8 : w4.cell? ⟨gy, 8, none⟩ = some (.int .i64 y.pw.quant) := k4y.cell 8
        have cx9 : w4.cell? ⟨gx, 9, none⟩ = some (.int .i64 x.pw.slow) := k4x.cell 9
        have cy9 : w4.cell? ⟨gy, 9, none⟩ = some (.int .i64 y.pw.slow) := k4y.cell 9
        have cx10 : w4.cell? ⟨gx, 10, none⟩ = some (.int .i64 x.pw.ppm) := k4x.cell 10
        have cy10 : w4.cell? ⟨gy, 10, none⟩ = some (.int .i64 y.pw.ppm) := k4y.cell 10
        go_wp2_with fail
        refine (same_Pw (rdPw.keep hx.2.2.2.1 B4) (rdPw.keep hy.2.2.2.1 B4)).mono ?_
        rintro e w5 ⟨b3, rfl, hb, hbl⟩
        have HB3 := Lib.hid hb
        have k5x := k4x.keep hbl
        have k5y := k4y.keep hbl
        have B5 := B4.trans (hbl.mono B4.size)
        clear hbl
        clear hb lx ly cx3 cy3 cx4 cy4 cx5 cy5 cx6 cy6 cx7 cy7 cx8 cy8 cx9 cy9 cx10 cy10 k4x k4y B4
        cases b3 with
        | false =>
          go_wp2_with fail
          go_ret
          exact SmPost.mk false rfl ⟨(fun h => by cases h), fun h => absurd (HB3.out.2 ((congrArg (fun p : Cf => p.pw) h :))) (by decide)⟩ B5
        | true =>
          have lx := k5x.lt
          have ly := k5y.lt
          have cx11 : w5.cell? ⟨gx, 11, none⟩ = some (.slice x.shed.down.A x.shed.down.l.length x.shed.down.c) := k5x.cell 11
          have cy11 : w5.cell? ⟨gy, 11, none⟩ = some (.slice y.shed.down.A y.shed.down.l.length y.shed.down.c) := k5y.cell 11
          go_wp2_with fail
          refine (equal_Int (SlI.keep hx.2.2.2.2.1 B5) (SlI.keep hy.2.2.2.2.1 B5)).mono ?_
          rintro e _ ⟨b4, rfl, hb, q, rfl⟩
          have HB4 := Lib.hid hb
          have k6x := Blk.drewN k5x q
          have k6y := Blk.drewN k5y q
          have B6 := below_drewN B5 q
          generalize w5.drewN q = w6 at k6x k6y B6 ⊢
          clear hb lx ly cx11 cy11 k5x k5y B5
          cases b4 with
          | false =>
            go_wp2_with fail
            go_ret
            exact SmPost.mk false rfl ⟨(fun h => by cases h), fun h => absurd (HB4.out.2 ((congrArg (fun p : Cf => p.shed.down.l) h :))) (by decide)⟩ B6
          | true =>
            have lx := k6x.lt
            have ly := k6y.lt
            have cx12 : w6.cell? ⟨gx, 12, none⟩ = some (.slice x.shed.up.A x.shed.up.l.length x.shed.up.c) := k6x.cell 12
            have cy12 : w6.cell? ⟨gy, 12, none⟩ = some (.slice y.shed.up.A y.shed.up.l.length y.shed.up.c) := k6y.cell 12
            go_wp2_with fail
            refine (equal_Int (SlI.keep hx.2.2.2.2.2 B6) (SlI.keep hy.2.2.2.2.2 B6)).mono ?_
            rintro e _ ⟨b5, rfl, hb, q, rfl⟩
            have HB5 := Lib.hid hb
            have k7x := Blk.drewN k6x q
            have k7y := Blk.drewN k6y q
            have B7 := below_drewN B6 q
            generalize w6.drewN q = w7 at k7x k7y B7 ⊢
            clear hb lx ly cx12 cy12 k6x k6y B6
            cases b5 with
            | false =>
              go_wp2_with fail
              go_ret
              exact SmPost.mk false rfl ⟨(fun h => by cases h), fun h => absurd (HB5.out.2 ((congrArg (fun p : Cf => p.shed.up.l) h :))) (by decide)⟩ B7
            | true =>
              have lx := k7x.lt
              have ly := k7y.lt
              go_wp2_with fail
              go_ret
              refine SmPost.mk true rfl ⟨fun _ => ?_, fun _ => rfl⟩ B7
              have r0 : bHm bPt x.parts = bHm bPt y.parts := bHm_eq.2 (HB0.out.1 (by trivial))
              have r1 : bH x.chans = bH y.chans := bH_eq.2 (HB1.out.1 (by trivial))
              have r2 : bHm bMd x.modes = bHm bMd y.modes := bHm_eq.2 (HB2.out.1 (by trivial))
              have r3 : bPw x.pw = bPw y.pw := (HB3.out.1 (by trivial))
              have r4 : bH x.shed.down = bH y.shed.down := bH_eq.2 (HB4.out.1 (by trivial))
              have r5 : bH x.shed.up = bH y.shed.up := bH_eq.2 (HB5.out.1 (by trivial))
              unfold bCf
              rw [r0, r1, r2, r3, r4, r5]
end Go.Proofs.YtahjnonkhbpnpaaGreat
/- conf's reader: lists. Printed by wip/gen_rclist.py. -/
namespace Go.Proofs.YtahjnonkhbpnpaaGreat
open Go.RowKit

set_option maxRecDepth 100000 in
set_option maxHeartbeats 8000000 in
theorem rdList_Rg {enc : Rg → List UInt8} {bad : Rg → Bool} {kf : RS → RS} (hF : OneR ftRg 84 Rg.v enc bad kf) : ListR ftRg 135 (fun g => #[.pointer (some ⟨g, 0, none⟩), .int .i64 64, .func (.func 84) #[] #[]]) enc bad kf := by
  intro w g B s h
  obtain ⟨i0, hi0, hz0, hz1, hz2⟩ := info_parts RgG_info
  have hBw : B ≤ w.heap.size := by obtain ⟨_, _, _, _, _, h3⟩ := h; exact h3.2.1
  have hgl : g < w.heap.size := by obtain ⟨_, _, _, h1, _, _⟩ := h; exact h1.lt
  have hrg := gInt_rng s
  have HL : Hid (kL kf s = kRep kf (gInt s).1.toNat (kHead s)) := rfl
  have HH : Hid (kHead s = if (gInt s).1 < 0 ∨ 64 < (gInt s).1 then errS (gInt s).2 3 else (gInt s).2) := rfl
  have HV : Hid ((gInt s).2.e = 0 → s.e = 0 ∧ s.l = vint (gInt s).1 ++ (gInt s).2.l) := fun h => gInt_inv h
  go_enter Tryz.func135, Tryz.ntmps135
  go_wp2_with fail
  refine (rdInt_any h).mono ?_
  rintro x w1 ⟨rfl, hr1, hf1⟩
  generalize (gInt s).1 = n at hrg HL HH HV ⊢
  generalize (gInt s).2 = s1 at hr1 HH HV ⊢
  generalize kHead s = s2 at HL HH
  have h3c : n < 0 ∨ (0 ≤ n ∧ 64 < n) ∨ (0 ≤ n ∧ n ≤ 64) := by omega
  rcases h3c with hn0 | ⟨hn0, hn2⟩ | ⟨hn0, hn2⟩
  case' inl =>
    have hs2 := HH.out
    rw [if_pos (by omega)] at hs2
    go_wp2_with fail
    refine (fail_any hr1 3).mono ?_
    rintro x w2 ⟨rfl, hr2, hf2⟩
    rw [← hs2] at hr2
    replace hf2 := hf1.trans hf2
    have hne : s2.e ≠ 0 := by rw [hs2]; unfold errS; split <;> simp_all
    have hbig : n.toNat ≤ 64 ∨ s2.e ≠ 0 := .inr hne
    have HV2 : Hid (s2.e = 0 → s.l = vint n ++ s2.l ∧ 0 ≤ n) := fun h => absurd h hne
    clear hs2 HH hr1 hf1 HV hne
    go_wp2_with fail
    clear hn0
  case' inr.inl =>
    have hn1 : decide (n < 0) = false := by simp; omega
    have hs2 := HH.out
    rw [if_pos (by omega)] at hs2
    go_wp2_with fail
    refine (fail_any hr1 3).mono ?_
    rintro x w2 ⟨rfl, hr2, hf2⟩
    rw [← hs2] at hr2
    replace hf2 := hf1.trans hf2
    have hne : s2.e ≠ 0 := by rw [hs2]; unfold errS; split <;> simp_all
    have hbig : n.toNat ≤ 64 ∨ s2.e ≠ 0 := .inr hne
    have HV2 : Hid (s2.e = 0 → s.l = vint n ++ s2.l ∧ 0 ≤ n) := fun h => absurd h hne
    clear hs2 HH hr1 hf1 HV hne
    go_wp2_with fail
    clear hn2 hn1 hn0
  case' inr.inr =>
    have hs2 := HH.out
    rw [if_neg (by omega)] at hs2
    subst hs2
    have hn1 : decide (n < 0) = false := by simp; omega
    have hn3 : decide (64 < n) = false := by simp; omega
    have hbig : n.toNat ≤ 64 ∨ s2.e ≠ 0 := .inl (by omega)
    have HV2 : Hid (s2.e = 0 → s.l = vint n ++ s2.l ∧ 0 ≤ n) := fun h => ⟨(HV.out h).2, hn0⟩
    generalize w1 = w2 at hr1 hf1 ⊢
    have hr2 := hr1
    have hf2 := hf1
    clear HH hr1 hf1 HV
    go_wp2_with fail
  all_goals
    have hnn : i64 n := hrg
    generalize hN : n.toNat = N at HL hbig
    go_loopw [8, 9] (fun v0 i wr => ∃ (v : Value) (k : Nat) (dn : List Rg) (sc : RS), v = v0 ∧ (0 < k → (k : Int) ≤ n) ∧ i = .int .i64 k ∧ dn.length = k ∧ wr.ownsRow w.heap.size 124 3 v k (dn.flatMap rdRg.f) ∧ (∀ x ∈ dn, rdRg.ok wr x) ∧ (∀ x ∈ dn, ∀ b, ftRg.blk x b → w.heap.size ≤ b ∧ v.ownBlock ≠ some b) ∧ RdSt wr g B sc ∧ Fr (fun k => k = g) w wr ∧ (N ≤ 64 ∨ sc.e ≠ 0) ∧ k ≤ 64 ∧ Hid (kRep kf N s2 = kRep kf (N - k) sc) ∧ Hid (sc.e = 0 → s2.e = 0 ∧ s2.l = dn.flatMap enc ++ sc.l ∧ dn.any bad = false)) (fun _ i _ => n.toNat - (intOf i).toNat)
    case atStart => exact ⟨_, 0, [], s2, rfl, by omega, rfl, rfl, World.ownsRow_nil _ _ _ _, (fun x h => by cases h), (fun x h => by cases h), hr2, hf2, hbig, by omega, by unfold Hid; simp, fun h => ⟨h, rfl, rfl⟩⟩
    case round =>
      obtain ⟨v, k, dn, sc, rfl, hkn, rfl, hdl, hown, hok, hbl, hr, hfw, hbg, hk5, HG, HC⟩ := hrel
      have hsz := hfw.size
      have hr' := hr
      obtain ⟨Ar, nr, cr, k1, k2, k3⟩ := hr'
      have hgw := k1.lt
      have d1 : wr.cell? ⟨g, 1, none⟩ = some (.int .i64 sc.e) := k1.cell 1
      by_cases he : sc.e = 0
      · have he' : (sc.e == 0) = true := by simpa using he
        have he2 : (sc.e != 0) = false := by simpa using he
        have hN5 : N ≤ 64 := by
          rcases hbg with h | h
          · exact h
          · exact absurd he h
        by_cases hkN : (k : Int) < n
        · have HM : Hid (kRep kf N s2 = kRep kf (N - (k + 1)) (kf sc)) := by
            unfold Hid
            rw [HG.out, show N - k = (N - (k + 1)) + 1 by omega, kRep_more he]
          have HC2 := Lib.hid (HC.out he)
          clear he hbg HG HC
          go_wp2_with fail
          refine (hF wr g B sc hr).mono ?_
          rintro x w3 ⟨y, rfl, hoy, hby, hr3, hf3, hcy⟩
          have hownA := own_far hown hf3 (fun k hk => by omega)
          have hz3 := hf3.size
          have hne3 : ∀ x ∈ dn, ∀ b, ftRg.blk x b → ¬ b = g := fun x hx b hb e => by have := (hbl x hx b hb).1; omega
          have hok3 : ∀ x ∈ dn, rdRg.ok w3 x := fun x hx => ftRg.fr (hok x hx) hf3 (hne3 x hx)
          have hlt3 : ∀ x ∈ dn, ∀ b, ftRg.blk x b → b < w3.heap.size := fun x hx b hb => ftRg.lt (hok3 x hx) hb
          have hlty : ∀ b, ftRg.blk y b → b < w3.heap.size := fun b hb => ftRg.lt hoy hb
          have hby2 : ∀ b, ftRg.blk y b → v.ownBlock ≠ some b := fun b hb e => by have := (hown.lt b e).2; have := hby b hb; omega
          have HM2 : Hid ((kf sc).e = 0 → s2.e = 0 ∧ s2.l = (dn ++ [y]).flatMap enc ++ (kf sc).l ∧ (dn ++ [y]).any bad = false) := fun h => by
            obtain ⟨a1, a2, a3⟩ := HC2.out
            obtain ⟨b1, b2⟩ := hcy.out h
            refine ⟨a1, ?_, ?_⟩
            · rw [a2, b1, List.flatMap_append, List.append_assoc]
              simp
            · rw [List.any_append, a3, List.any_cons, b2]
              rfl
          clear hcy HC2 hok d1 he' he2 k1 k2 k3
          generalize kf sc = s3 at hr3 HM HM2
          unfold Rg.v
          try unfold Hd.v
          go_wp2_with (at_builtin; refine wpList_app1 w3 (by rfl) _ _ 49 (by rfl) w.heap.size 124 i0 _ 3 24 (by kernel_rfl) hi0 hz0 hz1 hz2 rfl (by decide) (by decide) _ k _ (by rfl) hownA #[.int .i64 y.base, .int .i64 y.size, .bool y.wr] rfl (by simp [Value.oneCell']) (by rfl) (by omega) (by omega) ?_; intro v' w4 hown4 hf4 hat4)
          have hr4 : RdSt w4 g B s3 := hr3.fr hf4 (fun k hk => Nat.le_trans hBw (hownA.lt k hk).1)
          have hok4 : ∀ x ∈ dn ++ [y], rdRg.ok w4 x := fun x hx => by
            rcases List.mem_append.1 hx with hx | hx
            · exact ftRg.fr (hok3 x hx) hf4 (fun b hb => (hbl x hx b hb).2)
            · obtain rfl := List.mem_singleton.1 hx
              exact ftRg.fr hoy hf4 hby2
          have hbl4 : ∀ x ∈ dn ++ [y], ∀ b, ftRg.blk x b → w.heap.size ≤ b ∧ v'.ownBlock ≠ some b := fun x hx b hb => by
            have hx2 : w.heap.size ≤ b ∧ v.ownBlock ≠ some b ∧ b < w3.heap.size := by
              rcases List.mem_append.1 hx with hx | hx
              · exact ⟨(hbl x hx b hb).1, (hbl x hx b hb).2, hlt3 x hx b hb⟩
              · obtain rfl := List.mem_singleton.1 hx
                exact ⟨Nat.le_trans hsz (hby b hb), hby2 b hb, hlty b hb⟩
            refine ⟨hx2.1, fun e => ?_⟩
            rcases hat4 with h | ⟨g', h, hg'⟩
            · exact hx2.2.1 (h ▸ e)
            · rw [h] at e
              cases e
              omega
          exact ⟨⟨_, k + 1, dn ++ [y], s3, rfl, by omega, by go_num, by simp [hdl], by rw [List.flatMap_append]; simpa [rdRg, Rg.f, Hd.v] using hown4, hok4, hbl4, hr4, (hfw.trans hf3).trans' (hf4.mono (S' := fun k => w.heap.size ≤ k) (fun k _ hk => (hownA.lt k hk).1)) (fun k hk h => by omega), .inl hN5, by omega, HM, HM2⟩, by simp [intOf]; omega⟩
        · have hfin : kL kf s = sc := by
            rw [HL.out, HG.out]
            have : N - k = 0 := by omega
            rw [this]
            rfl
          have HC2 := HC.out he
          have hv2 := HV2.out HC2.1
          have hkn2 : (k : Int) = n := by
            by_cases hk0 : 0 < k
            · have := hkn hk0; omega
            · have := hv2.2; omega
          have HFIN := Lib.hid hfin
          have hkN' : ¬ (k : Int) < n := hkN
          have HE : Hid (sc.e = 0 → s.l = lst enc dn ++ sc.l ∧ badL bad dn = false) := fun _ => by
            refine ⟨?_, ?_⟩
            · rw [hv2.1, HC2.2.1, ← hkn2, ← hdl]
              unfold lst
              rw [List.append_assoc]
            · unfold badL
              rw [HC2.2.2, hdl]
              simp
              omega
          obtain ⟨A9, c9, hv9, hs9, hb9⟩ := SlG.of_own hown (fun x _ => rdRg.len x) hdl
          clear hfin he hbg HG HL HC HC2 hv2
          go_wp2_with fail
          go_ret
          rw [HFIN.out]
          refine ⟨⟨A9, c9, dn⟩, by show Ending.returned (.slice A9 k c9) = .returned (.slice A9 dn.length c9); rw [hdl], ⟨by rw [← hdl] at hs9; exact hs9, hok⟩, fun b hb => ?_, hr, hfw, HE⟩
          rcases hb with ⟨_, o, e⟩ | ⟨x, hx, hb⟩
          · exact hb9 b o e
          · exact (hbl x hx b hb).1
      · have he' : (sc.e == 0) = false := by simpa using he
        have he2 : (sc.e != 0) = true := by simpa using he
        have hfin : kL kf s = sc := by
          rw [HL.out, HG.out, kRep_err he]
        have HFIN := Lib.hid hfin
        have HE : Hid (sc.e = 0 → s.l = lst enc [] ++ sc.l ∧ badL bad ([] : List Rg) = false) := fun h => absurd h he
        clear hfin he hbg HG HL HC
        by_cases hkN : (k : Int) < n
        all_goals
          go_wp2_with fail
          go_ret
          rw [HFIN.out]
          refine ⟨⟨none, 0, []⟩, rfl, ⟨SlG.nil _ _ _, fun x h => by cases h⟩, fun b hb => ?_, hr, hfw, HE⟩
          rcases hb with ⟨h, _⟩ | ⟨x, hx, _⟩
          · exact absurd h (by simp)
          · cases hx
theorem rdSome_Rg {enc : Rg → List UInt8} {bad : Rg → Bool} {kf : RS → RS} (hF : OneR ftRg 84 Rg.v enc bad kf) : ListR ftRg 83 (fun g => #[.pointer (some ⟨g, 0, none⟩), .func (.func 84) #[] #[]]) enc bad kf := by
  intro w g B s h
  go_enter Tryz.func83, Tryz.ntmps83
  go_wp2_with fail
  refine (rdList_Rg hF w g B s h).mono ?_
  rintro e w2 ⟨y, rfl, h1, h2, h3, h4, h5⟩
  go_wp2_with fail
  go_ret
  exact ⟨y, rfl, h1, h2, h3, h4, h5⟩


set_option maxRecDepth 100000 in
set_option maxHeartbeats 8000000 in
theorem rdList_Pc {enc : Pc → List UInt8} {bad : Pc → Bool} {kf : RS → RS} (hF : OneR ftPc 86 Pc.v enc bad kf) : ListR ftPc 136 (fun g => #[.pointer (some ⟨g, 0, none⟩), .int .i64 64, .func (.func 86) #[] #[]]) enc bad kf := by
  intro w g B s h
  obtain ⟨i0, hi0, hz0, hz1, hz2⟩ := info_parts PcG_info
  have hBw : B ≤ w.heap.size := by obtain ⟨_, _, _, _, _, h3⟩ := h; exact h3.2.1
  have hgl : g < w.heap.size := by obtain ⟨_, _, _, h1, _, _⟩ := h; exact h1.lt
  have hrg := gInt_rng s
  have HL : Hid (kL kf s = kRep kf (gInt s).1.toNat (kHead s)) := rfl
  have HH : Hid (kHead s = if (gInt s).1 < 0 ∨ 64 < (gInt s).1 then errS (gInt s).2 3 else (gInt s).2) := rfl
  have HV : Hid ((gInt s).2.e = 0 → s.e = 0 ∧ s.l = vint (gInt s).1 ++ (gInt s).2.l) := fun h => gInt_inv h
  go_enter Tryz.func136, Tryz.ntmps136
  go_wp2_with fail
  refine (rdInt_any h).mono ?_
  rintro x w1 ⟨rfl, hr1, hf1⟩
  generalize (gInt s).1 = n at hrg HL HH HV ⊢
  generalize (gInt s).2 = s1 at hr1 HH HV ⊢
  generalize kHead s = s2 at HL HH
  have h3c : n < 0 ∨ (0 ≤ n ∧ 64 < n) ∨ (0 ≤ n ∧ n ≤ 64) := by omega
  rcases h3c with hn0 | ⟨hn0, hn2⟩ | ⟨hn0, hn2⟩
  case' inl =>
    have hs2 := HH.out
    rw [if_pos (by omega)] at hs2
    go_wp2_with fail
    refine (fail_any hr1 3).mono ?_
    rintro x w2 ⟨rfl, hr2, hf2⟩
    rw [← hs2] at hr2
    replace hf2 := hf1.trans hf2
    have hne : s2.e ≠ 0 := by rw [hs2]; unfold errS; split <;> simp_all
    have hbig : n.toNat ≤ 64 ∨ s2.e ≠ 0 := .inr hne
    have HV2 : Hid (s2.e = 0 → s.l = vint n ++ s2.l ∧ 0 ≤ n) := fun h => absurd h hne
    clear hs2 HH hr1 hf1 HV hne
    go_wp2_with fail
    clear hn0
  case' inr.inl =>
    have hn1 : decide (n < 0) = false := by simp; omega
    have hs2 := HH.out
    rw [if_pos (by omega)] at hs2
    go_wp2_with fail
    refine (fail_any hr1 3).mono ?_
    rintro x w2 ⟨rfl, hr2, hf2⟩
    rw [← hs2] at hr2
    replace hf2 := hf1.trans hf2
    have hne : s2.e ≠ 0 := by rw [hs2]; unfold errS; split <;> simp_all
    have hbig : n.toNat ≤ 64 ∨ s2.e ≠ 0 := .inr hne
    have HV2 : Hid (s2.e = 0 → s.l = vint n ++ s2.l ∧ 0 ≤ n) := fun h => absurd h hne
    clear hs2 HH hr1 hf1 HV hne
    go_wp2_with fail
    clear hn2 hn1 hn0
  case' inr.inr =>
    have hs2 := HH.out
    rw [if_neg (by omega)] at hs2
    subst hs2
    have hn1 : decide (n < 0) = false := by simp; omega
    have hn3 : decide (64 < n) = false := by simp; omega
    have hbig : n.toNat ≤ 64 ∨ s2.e ≠ 0 := .inl (by omega)
    have HV2 : Hid (s2.e = 0 → s.l = vint n ++ s2.l ∧ 0 ≤ n) := fun h => ⟨(HV.out h).2, hn0⟩
    generalize w1 = w2 at hr1 hf1 ⊢
    have hr2 := hr1
    have hf2 := hf1
    clear HH hr1 hf1 HV
    go_wp2_with fail
  all_goals
    have hnn : i64 n := hrg
    generalize hN : n.toNat = N at HL hbig
    go_loopw [8, 9] (fun v0 i wr => ∃ (v : Value) (k : Nat) (dn : List Pc) (sc : RS), v = v0 ∧ (0 < k → (k : Int) ≤ n) ∧ i = .int .i64 k ∧ dn.length = k ∧ wr.ownsRow w.heap.size 129 3 v k (dn.flatMap rdPc.f) ∧ (∀ x ∈ dn, rdPc.ok wr x) ∧ (∀ x ∈ dn, ∀ b, ftPc.blk x b → w.heap.size ≤ b ∧ v.ownBlock ≠ some b) ∧ RdSt wr g B sc ∧ Fr (fun k => k = g) w wr ∧ (N ≤ 64 ∨ sc.e ≠ 0) ∧ k ≤ 64 ∧ Hid (kRep kf N s2 = kRep kf (N - k) sc) ∧ Hid (sc.e = 0 → s2.e = 0 ∧ s2.l = dn.flatMap enc ++ sc.l ∧ dn.any bad = false)) (fun _ i _ => n.toNat - (intOf i).toNat)
    case atStart => exact ⟨_, 0, [], s2, rfl, by omega, rfl, rfl, World.ownsRow_nil _ _ _ _, (fun x h => by cases h), (fun x h => by cases h), hr2, hf2, hbig, by omega, by unfold Hid; simp, fun h => ⟨h, rfl, rfl⟩⟩
    case round =>
      obtain ⟨v, k, dn, sc, rfl, hkn, rfl, hdl, hown, hok, hbl, hr, hfw, hbg, hk5, HG, HC⟩ := hrel
      have hsz := hfw.size
      have hr' := hr
      obtain ⟨Ar, nr, cr, k1, k2, k3⟩ := hr'
      have hgw := k1.lt
      have d1 : wr.cell? ⟨g, 1, none⟩ = some (.int .i64 sc.e) := k1.cell 1
      by_cases he : sc.e = 0
      · have he' : (sc.e == 0) = true := by simpa using he
        have he2 : (sc.e != 0) = false := by simpa using he
        have hN5 : N ≤ 64 := by
          rcases hbg with h | h
          · exact h
          · exact absurd he h
        by_cases hkN : (k : Int) < n
        · have HM : Hid (kRep kf N s2 = kRep kf (N - (k + 1)) (kf sc)) := by
            unfold Hid
            rw [HG.out, show N - k = (N - (k + 1)) + 1 by omega, kRep_more he]
          have HC2 := Lib.hid (HC.out he)
          clear he hbg HG HC
          go_wp2_with fail
          refine (hF wr g B sc hr).mono ?_
          rintro x w3 ⟨y, rfl, hoy, hby, hr3, hf3, hcy⟩
          have hownA := own_far hown hf3 (fun k hk => by omega)
          have hz3 := hf3.size
          have hne3 : ∀ x ∈ dn, ∀ b, ftPc.blk x b → ¬ b = g := fun x hx b hb e => by have := (hbl x hx b hb).1; omega
          have hok3 : ∀ x ∈ dn, rdPc.ok w3 x := fun x hx => ftPc.fr (hok x hx) hf3 (hne3 x hx)
          have hlt3 : ∀ x ∈ dn, ∀ b, ftPc.blk x b → b < w3.heap.size := fun x hx b hb => ftPc.lt (hok3 x hx) hb
          have hlty : ∀ b, ftPc.blk y b → b < w3.heap.size := fun b hb => ftPc.lt hoy hb
          have hby2 : ∀ b, ftPc.blk y b → v.ownBlock ≠ some b := fun b hb e => by have := (hown.lt b e).2; have := hby b hb; omega
          have HM2 : Hid ((kf sc).e = 0 → s2.e = 0 ∧ s2.l = (dn ++ [y]).flatMap enc ++ (kf sc).l ∧ (dn ++ [y]).any bad = false) := fun h => by
            obtain ⟨a1, a2, a3⟩ := HC2.out
            obtain ⟨b1, b2⟩ := hcy.out h
            refine ⟨a1, ?_, ?_⟩
            · rw [a2, b1, List.flatMap_append, List.append_assoc]
              simp
            · rw [List.any_append, a3, List.any_cons, b2]
              rfl
          clear hcy HC2 hok d1 he' he2 k1 k2 k3
          generalize kf sc = s3 at hr3 HM HM2
          unfold Pc.v
          try unfold Hd.v
          go_wp2_with (at_builtin; refine wpList_app1 w3 (by rfl) _ _ 50 (by rfl) w.heap.size 129 i0 _ 3 24 (by kernel_rfl) hi0 hz0 hz1 hz2 rfl (by decide) (by decide) _ k _ (by rfl) hownA #[.int .i64 y.prio, .int .i64 y.per, .int .i64 y.cost] rfl (by simp [Value.oneCell']) (by rfl) (by omega) (by omega) ?_; intro v' w4 hown4 hf4 hat4)
          have hr4 : RdSt w4 g B s3 := hr3.fr hf4 (fun k hk => Nat.le_trans hBw (hownA.lt k hk).1)
          have hok4 : ∀ x ∈ dn ++ [y], rdPc.ok w4 x := fun x hx => by
            rcases List.mem_append.1 hx with hx | hx
            · exact ftPc.fr (hok3 x hx) hf4 (fun b hb => (hbl x hx b hb).2)
            · obtain rfl := List.mem_singleton.1 hx
              exact ftPc.fr hoy hf4 hby2
          have hbl4 : ∀ x ∈ dn ++ [y], ∀ b, ftPc.blk x b → w.heap.size ≤ b ∧ v'.ownBlock ≠ some b := fun x hx b hb => by
            have hx2 : w.heap.size ≤ b ∧ v.ownBlock ≠ some b ∧ b < w3.heap.size := by
              rcases List.mem_append.1 hx with hx | hx
              · exact ⟨(hbl x hx b hb).1, (hbl x hx b hb).2, hlt3 x hx b hb⟩
              · obtain rfl := List.mem_singleton.1 hx
                exact ⟨Nat.le_trans hsz (hby b hb), hby2 b hb, hlty b hb⟩
            refine ⟨hx2.1, fun e => ?_⟩
            rcases hat4 with h | ⟨g', h, hg'⟩
            · exact hx2.2.1 (h ▸ e)
            · rw [h] at e
              cases e
              omega
          exact ⟨⟨_, k + 1, dn ++ [y], s3, rfl, by omega, by go_num, by simp [hdl], by rw [List.flatMap_append]; simpa [rdPc, Pc.f, Hd.v] using hown4, hok4, hbl4, hr4, (hfw.trans hf3).trans' (hf4.mono (S' := fun k => w.heap.size ≤ k) (fun k _ hk => (hownA.lt k hk).1)) (fun k hk h => by omega), .inl hN5, by omega, HM, HM2⟩, by simp [intOf]; omega⟩
        · have hfin : kL kf s = sc := by
            rw [HL.out, HG.out]
            have : N - k = 0 := by omega
            rw [this]
            rfl
          have HC2 := HC.out he
          have hv2 := HV2.out HC2.1
          have hkn2 : (k : Int) = n := by
            by_cases hk0 : 0 < k
            · have := hkn hk0; omega
            · have := hv2.2; omega
          have HFIN := Lib.hid hfin
          have hkN' : ¬ (k : Int) < n := hkN
          have HE : Hid (sc.e = 0 → s.l = lst enc dn ++ sc.l ∧ badL bad dn = false) := fun _ => by
            refine ⟨?_, ?_⟩
            · rw [hv2.1, HC2.2.1, ← hkn2, ← hdl]
              unfold lst
              rw [List.append_assoc]
            · unfold badL
              rw [HC2.2.2, hdl]
              simp
              omega
          obtain ⟨A9, c9, hv9, hs9, hb9⟩ := SlG.of_own hown (fun x _ => rdPc.len x) hdl
          clear hfin he hbg HG HL HC HC2 hv2
          go_wp2_with fail
          go_ret
          rw [HFIN.out]
          refine ⟨⟨A9, c9, dn⟩, by show Ending.returned (.slice A9 k c9) = .returned (.slice A9 dn.length c9); rw [hdl], ⟨by rw [← hdl] at hs9; exact hs9, hok⟩, fun b hb => ?_, hr, hfw, HE⟩
          rcases hb with ⟨_, o, e⟩ | ⟨x, hx, hb⟩
          · exact hb9 b o e
          · exact (hbl x hx b hb).1
      · have he' : (sc.e == 0) = false := by simpa using he
        have he2 : (sc.e != 0) = true := by simpa using he
        have hfin : kL kf s = sc := by
          rw [HL.out, HG.out, kRep_err he]
        have HFIN := Lib.hid hfin
        have HE : Hid (sc.e = 0 → s.l = lst enc [] ++ sc.l ∧ badL bad ([] : List Pc) = false) := fun h => absurd h he
        clear hfin he hbg HG HL HC
        by_cases hkN : (k : Int) < n
        all_goals
          go_wp2_with fail
          go_ret
          rw [HFIN.out]
          refine ⟨⟨none, 0, []⟩, rfl, ⟨SlG.nil _ _ _, fun x h => by cases h⟩, fun b hb => ?_, hr, hfw, HE⟩
          rcases hb with ⟨h, _⟩ | ⟨x, hx, _⟩
          · exact absurd h (by simp)
          · cases hx
theorem rdSome_Pc {enc : Pc → List UInt8} {bad : Pc → Bool} {kf : RS → RS} (hF : OneR ftPc 86 Pc.v enc bad kf) : ListR ftPc 85 (fun g => #[.pointer (some ⟨g, 0, none⟩), .func (.func 86) #[] #[]]) enc bad kf := by
  intro w g B s h
  go_enter Tryz.func85, Tryz.ntmps85
  go_wp2_with fail
  refine (rdList_Pc hF w g B s h).mono ?_
  rintro e w2 ⟨y, rfl, h1, h2, h3, h4, h5⟩
  go_wp2_with fail
  go_ret
  exact ⟨y, rfl, h1, h2, h3, h4, h5⟩


set_option maxRecDepth 100000 in
set_option maxHeartbeats 8000000 in
theorem rdList_Po {enc : Po → List UInt8} {bad : Po → Bool} {kf : RS → RS} (hF : OneR ftPo 89 Po.v enc bad kf) : ListR ftPo 139 (fun g => #[.pointer (some ⟨g, 0, none⟩), .int .i64 64, .func (.func 89) #[] #[]]) enc bad kf := by
  intro w g B s h
  obtain ⟨i0, hi0, hz0, hz1, hz2⟩ := info_parts PoG_info
  have hBw : B ≤ w.heap.size := by obtain ⟨_, _, _, _, _, h3⟩ := h; exact h3.2.1
  have hgl : g < w.heap.size := by obtain ⟨_, _, _, h1, _, _⟩ := h; exact h1.lt
  have hrg := gInt_rng s
  have HL : Hid (kL kf s = kRep kf (gInt s).1.toNat (kHead s)) := rfl
  have HH : Hid (kHead s = if (gInt s).1 < 0 ∨ 64 < (gInt s).1 then errS (gInt s).2 3 else (gInt s).2) := rfl
  have HV : Hid ((gInt s).2.e = 0 → s.e = 0 ∧ s.l = vint (gInt s).1 ++ (gInt s).2.l) := fun h => gInt_inv h
  go_enter Tryz.func139, Tryz.ntmps139
  go_wp2_with fail
  refine (rdInt_any h).mono ?_
  rintro x w1 ⟨rfl, hr1, hf1⟩
  generalize (gInt s).1 = n at hrg HL HH HV ⊢
  generalize (gInt s).2 = s1 at hr1 HH HV ⊢
  generalize kHead s = s2 at HL HH
  have h3c : n < 0 ∨ (0 ≤ n ∧ 64 < n) ∨ (0 ≤ n ∧ n ≤ 64) := by omega
  rcases h3c with hn0 | ⟨hn0, hn2⟩ | ⟨hn0, hn2⟩
  case' inl =>
    have hs2 := HH.out
    rw [if_pos (by omega)] at hs2
    go_wp2_with fail
    refine (fail_any hr1 3).mono ?_
    rintro x w2 ⟨rfl, hr2, hf2⟩
    rw [← hs2] at hr2
    replace hf2 := hf1.trans hf2
    have hne : s2.e ≠ 0 := by rw [hs2]; unfold errS; split <;> simp_all
    have hbig : n.toNat ≤ 64 ∨ s2.e ≠ 0 := .inr hne
    have HV2 : Hid (s2.e = 0 → s.l = vint n ++ s2.l ∧ 0 ≤ n) := fun h => absurd h hne
    clear hs2 HH hr1 hf1 HV hne
    go_wp2_with fail
    clear hn0
  case' inr.inl =>
    have hn1 : decide (n < 0) = false := by simp; omega
    have hs2 := HH.out
    rw [if_pos (by omega)] at hs2
    go_wp2_with fail
    refine (fail_any hr1 3).mono ?_
    rintro x w2 ⟨rfl, hr2, hf2⟩
    rw [← hs2] at hr2
    replace hf2 := hf1.trans hf2
    have hne : s2.e ≠ 0 := by rw [hs2]; unfold errS; split <;> simp_all
    have hbig : n.toNat ≤ 64 ∨ s2.e ≠ 0 := .inr hne
    have HV2 : Hid (s2.e = 0 → s.l = vint n ++ s2.l ∧ 0 ≤ n) := fun h => absurd h hne
    clear hs2 HH hr1 hf1 HV hne
    go_wp2_with fail
    clear hn2 hn1 hn0
  case' inr.inr =>
    have hs2 := HH.out
    rw [if_neg (by omega)] at hs2
    subst hs2
    have hn1 : decide (n < 0) = false := by simp; omega
    have hn3 : decide (64 < n) = false := by simp; omega
    have hbig : n.toNat ≤ 64 ∨ s2.e ≠ 0 := .inl (by omega)
    have HV2 : Hid (s2.e = 0 → s.l = vint n ++ s2.l ∧ 0 ≤ n) := fun h => ⟨(HV.out h).2, hn0⟩
    generalize w1 = w2 at hr1 hf1 ⊢
    have hr2 := hr1
    have hf2 := hf1
    clear HH hr1 hf1 HV
    go_wp2_with fail
  all_goals
    have hnn : i64 n := hrg
    generalize hN : n.toNat = N at HL hbig
    go_loopw [8, 9] (fun v0 i wr => ∃ (v : Value) (k : Nat) (dn : List Po) (sc : RS), v = v0 ∧ (0 < k → (k : Int) ≤ n) ∧ i = .int .i64 k ∧ dn.length = k ∧ wr.ownsRow w.heap.size 133 4 v k (dn.flatMap rdPo.f) ∧ (∀ x ∈ dn, rdPo.ok wr x) ∧ (∀ x ∈ dn, ∀ b, ftPo.blk x b → w.heap.size ≤ b ∧ v.ownBlock ≠ some b) ∧ RdSt wr g B sc ∧ Fr (fun k => k = g) w wr ∧ (N ≤ 64 ∨ sc.e ≠ 0) ∧ k ≤ 64 ∧ Hid (kRep kf N s2 = kRep kf (N - k) sc) ∧ Hid (sc.e = 0 → s2.e = 0 ∧ s2.l = dn.flatMap enc ++ sc.l ∧ dn.any bad = false)) (fun _ i _ => n.toNat - (intOf i).toNat)
    case atStart => exact ⟨_, 0, [], s2, rfl, by omega, rfl, rfl, World.ownsRow_nil _ _ _ _, (fun x h => by cases h), (fun x h => by cases h), hr2, hf2, hbig, by omega, by unfold Hid; simp, fun h => ⟨h, rfl, rfl⟩⟩
    case round =>
      obtain ⟨v, k, dn, sc, rfl, hkn, rfl, hdl, hown, hok, hbl, hr, hfw, hbg, hk5, HG, HC⟩ := hrel
      have hsz := hfw.size
      have hr' := hr
      obtain ⟨Ar, nr, cr, k1, k2, k3⟩ := hr'
      have hgw := k1.lt
      have d1 : wr.cell? ⟨g, 1, none⟩ = some (.int .i64 sc.e) := k1.cell 1
      by_cases he : sc.e = 0
      · have he' : (sc.e == 0) = true := by simpa using he
        have he2 : (sc.e != 0) = false := by simpa using he
        have hN5 : N ≤ 64 := by
          rcases hbg with h | h
          · exact h
          · exact absurd he h
        by_cases hkN : (k : Int) < n
        · have HM : Hid (kRep kf N s2 = kRep kf (N - (k + 1)) (kf sc)) := by
            unfold Hid
            rw [HG.out, show N - k = (N - (k + 1)) + 1 by omega, kRep_more he]
          have HC2 := Lib.hid (HC.out he)
          clear he hbg HG HC
          go_wp2_with fail
          refine (hF wr g B sc hr).mono ?_
          rintro x w3 ⟨y, rfl, hoy, hby, hr3, hf3, hcy⟩
          have hownA := own_far hown hf3 (fun k hk => by omega)
          have hz3 := hf3.size
          have hne3 : ∀ x ∈ dn, ∀ b, ftPo.blk x b → ¬ b = g := fun x hx b hb e => by have := (hbl x hx b hb).1; omega
          have hok3 : ∀ x ∈ dn, rdPo.ok w3 x := fun x hx => ftPo.fr (hok x hx) hf3 (hne3 x hx)
          have hlt3 : ∀ x ∈ dn, ∀ b, ftPo.blk x b → b < w3.heap.size := fun x hx b hb => ftPo.lt (hok3 x hx) hb
          have hlty : ∀ b, ftPo.blk y b → b < w3.heap.size := fun b hb => ftPo.lt hoy hb
          have hby2 : ∀ b, ftPo.blk y b → v.ownBlock ≠ some b := fun b hb e => by have := (hown.lt b e).2; have := hby b hb; omega
          have HM2 : Hid ((kf sc).e = 0 → s2.e = 0 ∧ s2.l = (dn ++ [y]).flatMap enc ++ (kf sc).l ∧ (dn ++ [y]).any bad = false) := fun h => by
            obtain ⟨a1, a2, a3⟩ := HC2.out
            obtain ⟨b1, b2⟩ := hcy.out h
            refine ⟨a1, ?_, ?_⟩
            · rw [a2, b1, List.flatMap_append, List.append_assoc]
              simp
            · rw [List.any_append, a3, List.any_cons, b2]
              rfl
          clear hcy HC2 hok d1 he' he2 k1 k2 k3
          generalize kf sc = s3 at hr3 HM HM2
          unfold Po.v
          try unfold Hd.v
          go_wp2_with (at_builtin; refine wpList_app1 w3 (by rfl) _ _ 51 (by rfl) w.heap.size 133 i0 _ 4 24 (by kernel_rfl) hi0 hz0 hz1 hz2 rfl (by decide) (by decide) _ k _ (by rfl) hownA #[.bool y.q, .bool y.inn, .int .i64 y.size, .int .i64 y.depth] rfl (by simp [Value.oneCell']) (by rfl) (by omega) (by omega) ?_; intro v' w4 hown4 hf4 hat4)
          have hr4 : RdSt w4 g B s3 := hr3.fr hf4 (fun k hk => Nat.le_trans hBw (hownA.lt k hk).1)
          have hok4 : ∀ x ∈ dn ++ [y], rdPo.ok w4 x := fun x hx => by
            rcases List.mem_append.1 hx with hx | hx
            · exact ftPo.fr (hok3 x hx) hf4 (fun b hb => (hbl x hx b hb).2)
            · obtain rfl := List.mem_singleton.1 hx
              exact ftPo.fr hoy hf4 hby2
          have hbl4 : ∀ x ∈ dn ++ [y], ∀ b, ftPo.blk x b → w.heap.size ≤ b ∧ v'.ownBlock ≠ some b := fun x hx b hb => by
            have hx2 : w.heap.size ≤ b ∧ v.ownBlock ≠ some b ∧ b < w3.heap.size := by
              rcases List.mem_append.1 hx with hx | hx
              · exact ⟨(hbl x hx b hb).1, (hbl x hx b hb).2, hlt3 x hx b hb⟩
              · obtain rfl := List.mem_singleton.1 hx
                exact ⟨Nat.le_trans hsz (hby b hb), hby2 b hb, hlty b hb⟩
            refine ⟨hx2.1, fun e => ?_⟩
            rcases hat4 with h | ⟨g', h, hg'⟩
            · exact hx2.2.1 (h ▸ e)
            · rw [h] at e
              cases e
              omega
          exact ⟨⟨_, k + 1, dn ++ [y], s3, rfl, by omega, by go_num, by simp [hdl], by rw [List.flatMap_append]; simpa [rdPo, Po.f, Hd.v] using hown4, hok4, hbl4, hr4, (hfw.trans hf3).trans' (hf4.mono (S' := fun k => w.heap.size ≤ k) (fun k _ hk => (hownA.lt k hk).1)) (fun k hk h => by omega), .inl hN5, by omega, HM, HM2⟩, by simp [intOf]; omega⟩
        · have hfin : kL kf s = sc := by
            rw [HL.out, HG.out]
            have : N - k = 0 := by omega
            rw [this]
            rfl
          have HC2 := HC.out he
          have hv2 := HV2.out HC2.1
          have hkn2 : (k : Int) = n := by
            by_cases hk0 : 0 < k
            · have := hkn hk0; omega
            · have := hv2.2; omega
          have HFIN := Lib.hid hfin
          have hkN' : ¬ (k : Int) < n := hkN
          have HE : Hid (sc.e = 0 → s.l = lst enc dn ++ sc.l ∧ badL bad dn = false) := fun _ => by
            refine ⟨?_, ?_⟩
            · rw [hv2.1, HC2.2.1, ← hkn2, ← hdl]
              unfold lst
              rw [List.append_assoc]
            · unfold badL
              rw [HC2.2.2, hdl]
              simp
              omega
          obtain ⟨A9, c9, hv9, hs9, hb9⟩ := SlG.of_own hown (fun x _ => rdPo.len x) hdl
          clear hfin he hbg HG HL HC HC2 hv2
          go_wp2_with fail
          go_ret
          rw [HFIN.out]
          refine ⟨⟨A9, c9, dn⟩, by show Ending.returned (.slice A9 k c9) = .returned (.slice A9 dn.length c9); rw [hdl], ⟨by rw [← hdl] at hs9; exact hs9, hok⟩, fun b hb => ?_, hr, hfw, HE⟩
          rcases hb with ⟨_, o, e⟩ | ⟨x, hx, hb⟩
          · exact hb9 b o e
          · exact (hbl x hx b hb).1
      · have he' : (sc.e == 0) = false := by simpa using he
        have he2 : (sc.e != 0) = true := by simpa using he
        have hfin : kL kf s = sc := by
          rw [HL.out, HG.out, kRep_err he]
        have HFIN := Lib.hid hfin
        have HE : Hid (sc.e = 0 → s.l = lst enc [] ++ sc.l ∧ badL bad ([] : List Po) = false) := fun h => absurd h he
        clear hfin he hbg HG HL HC
        by_cases hkN : (k : Int) < n
        all_goals
          go_wp2_with fail
          go_ret
          rw [HFIN.out]
          refine ⟨⟨none, 0, []⟩, rfl, ⟨SlG.nil _ _ _, fun x h => by cases h⟩, fun b hb => ?_, hr, hfw, HE⟩
          rcases hb with ⟨h, _⟩ | ⟨x, hx, _⟩
          · exact absurd h (by simp)
          · cases hx
theorem rdSome_Po {enc : Po → List UInt8} {bad : Po → Bool} {kf : RS → RS} (hF : OneR ftPo 89 Po.v enc bad kf) : ListR ftPo 88 (fun g => #[.pointer (some ⟨g, 0, none⟩), .func (.func 89) #[] #[]]) enc bad kf := by
  intro w g B s h
  go_enter Tryz.func88, Tryz.ntmps88
  go_wp2_with fail
  refine (rdList_Po hF w g B s h).mono ?_
  rintro e w2 ⟨y, rfl, h1, h2, h3, h4, h5⟩
  go_wp2_with fail
  go_ret
  exact ⟨y, rfl, h1, h2, h3, h4, h5⟩


set_option maxRecDepth 100000 in
set_option maxHeartbeats 8000000 in
theorem rdList_Sm {enc : Sm → List UInt8} {bad : Sm → Bool} {kf : RS → RS} (hF : OneR ftSm 92 Sm.v enc bad kf) : ListR ftSm 141 (fun g => #[.pointer (some ⟨g, 0, none⟩), .int .i64 64, .func (.func 92) #[] #[]]) enc bad kf := by
  intro w g B s h
  obtain ⟨i0, hi0, hz0, hz1, hz2⟩ := info_parts SmG_info
  have hBw : B ≤ w.heap.size := by obtain ⟨_, _, _, _, _, h3⟩ := h; exact h3.2.1
  have hgl : g < w.heap.size := by obtain ⟨_, _, _, h1, _, _⟩ := h; exact h1.lt
  have hrg := gInt_rng s
  have HL : Hid (kL kf s = kRep kf (gInt s).1.toNat (kHead s)) := rfl
  have HH : Hid (kHead s = if (gInt s).1 < 0 ∨ 64 < (gInt s).1 then errS (gInt s).2 3 else (gInt s).2) := rfl
  have HV : Hid ((gInt s).2.e = 0 → s.e = 0 ∧ s.l = vint (gInt s).1 ++ (gInt s).2.l) := fun h => gInt_inv h
  go_enter Tryz.func141, Tryz.ntmps141
  go_wp2_with fail
  refine (rdInt_any h).mono ?_
  rintro x w1 ⟨rfl, hr1, hf1⟩
  generalize (gInt s).1 = n at hrg HL HH HV ⊢
  generalize (gInt s).2 = s1 at hr1 HH HV ⊢
  generalize kHead s = s2 at HL HH
  have h3c : n < 0 ∨ (0 ≤ n ∧ 64 < n) ∨ (0 ≤ n ∧ n ≤ 64) := by omega
  rcases h3c with hn0 | ⟨hn0, hn2⟩ | ⟨hn0, hn2⟩
  case' inl =>
    have hs2 := HH.out
    rw [if_pos (by omega)] at hs2
    go_wp2_with fail
    refine (fail_any hr1 3).mono ?_
    rintro x w2 ⟨rfl, hr2, hf2⟩
    rw [← hs2] at hr2
    replace hf2 := hf1.trans hf2
    have hne : s2.e ≠ 0 := by rw [hs2]; unfold errS; split <;> simp_all
    have hbig : n.toNat ≤ 64 ∨ s2.e ≠ 0 := .inr hne
    have HV2 : Hid (s2.e = 0 → s.l = vint n ++ s2.l ∧ 0 ≤ n) := fun h => absurd h hne
    clear hs2 HH hr1 hf1 HV hne
    go_wp2_with fail
    clear hn0
  case' inr.inl =>
    have hn1 : decide (n < 0) = false := by simp; omega
    have hs2 := HH.out
    rw [if_pos (by omega)] at hs2
    go_wp2_with fail
    refine (fail_any hr1 3).mono ?_
    rintro x w2 ⟨rfl, hr2, hf2⟩
    rw [← hs2] at hr2
    replace hf2 := hf1.trans hf2
    have hne : s2.e ≠ 0 := by rw [hs2]; unfold errS; split <;> simp_all
    have hbig : n.toNat ≤ 64 ∨ s2.e ≠ 0 := .inr hne
    have HV2 : Hid (s2.e = 0 → s.l = vint n ++ s2.l ∧ 0 ≤ n) := fun h => absurd h hne
    clear hs2 HH hr1 hf1 HV hne
    go_wp2_with fail
    clear hn2 hn1 hn0
  case' inr.inr =>
    have hs2 := HH.out
    rw [if_neg (by omega)] at hs2
    subst hs2
    have hn1 : decide (n < 0) = false := by simp; omega
    have hn3 : decide (64 < n) = false := by simp; omega
    have hbig : n.toNat ≤ 64 ∨ s2.e ≠ 0 := .inl (by omega)
    have HV2 : Hid (s2.e = 0 → s.l = vint n ++ s2.l ∧ 0 ≤ n) := fun h => ⟨(HV.out h).2, hn0⟩
    generalize w1 = w2 at hr1 hf1 ⊢
    have hr2 := hr1
    have hf2 := hf1
    clear HH hr1 hf1 HV
    go_wp2_with fail
  all_goals
    have hnn : i64 n := hrg
    generalize hN : n.toNat = N at HL hbig
    go_loopw [8, 9] (fun v0 i wr => ∃ (v : Value) (k : Nat) (dn : List Sm) (sc : RS), v = v0 ∧ (0 < k → (k : Int) ≤ n) ∧ i = .int .i64 k ∧ dn.length = k ∧ wr.ownsRow w.heap.size 137 2 v k (dn.flatMap rdSm.f) ∧ (∀ x ∈ dn, rdSm.ok wr x) ∧ (∀ x ∈ dn, ∀ b, ftSm.blk x b → w.heap.size ≤ b ∧ v.ownBlock ≠ some b) ∧ RdSt wr g B sc ∧ Fr (fun k => k = g) w wr ∧ (N ≤ 64 ∨ sc.e ≠ 0) ∧ k ≤ 64 ∧ Hid (kRep kf N s2 = kRep kf (N - k) sc) ∧ Hid (sc.e = 0 → s2.e = 0 ∧ s2.l = dn.flatMap enc ++ sc.l ∧ dn.any bad = false)) (fun _ i _ => n.toNat - (intOf i).toNat)
    case atStart => exact ⟨_, 0, [], s2, rfl, by omega, rfl, rfl, World.ownsRow_nil _ _ _ _, (fun x h => by cases h), (fun x h => by cases h), hr2, hf2, hbig, by omega, by unfold Hid; simp, fun h => ⟨h, rfl, rfl⟩⟩
    case round =>
      obtain ⟨v, k, dn, sc, rfl, hkn, rfl, hdl, hown, hok, hbl, hr, hfw, hbg, hk5, HG, HC⟩ := hrel
      have hsz := hfw.size
      have hr' := hr
      obtain ⟨Ar, nr, cr, k1, k2, k3⟩ := hr'
      have hgw := k1.lt
      have d1 : wr.cell? ⟨g, 1, none⟩ = some (.int .i64 sc.e) := k1.cell 1
      by_cases he : sc.e = 0
      · have he' : (sc.e == 0) = true := by simpa using he
        have he2 : (sc.e != 0) = false := by simpa using he
        have hN5 : N ≤ 64 := by
          rcases hbg with h | h
          · exact h
          · exact absurd he h
        by_cases hkN : (k : Int) < n
        · have HM : Hid (kRep kf N s2 = kRep kf (N - (k + 1)) (kf sc)) := by
            unfold Hid
            rw [HG.out, show N - k = (N - (k + 1)) + 1 by omega, kRep_more he]
          have HC2 := Lib.hid (HC.out he)
          clear he hbg HG HC
          go_wp2_with fail
          refine (hF wr g B sc hr).mono ?_
          rintro x w3 ⟨y, rfl, hoy, hby, hr3, hf3, hcy⟩
          have hownA := own_far hown hf3 (fun k hk => by omega)
          have hz3 := hf3.size
          have hne3 : ∀ x ∈ dn, ∀ b, ftSm.blk x b → ¬ b = g := fun x hx b hb e => by have := (hbl x hx b hb).1; omega
          have hok3 : ∀ x ∈ dn, rdSm.ok w3 x := fun x hx => ftSm.fr (hok x hx) hf3 (hne3 x hx)
          have hlt3 : ∀ x ∈ dn, ∀ b, ftSm.blk x b → b < w3.heap.size := fun x hx b hb => ftSm.lt (hok3 x hx) hb
          have hlty : ∀ b, ftSm.blk y b → b < w3.heap.size := fun b hb => ftSm.lt hoy hb
          have hby2 : ∀ b, ftSm.blk y b → v.ownBlock ≠ some b := fun b hb e => by have := (hown.lt b e).2; have := hby b hb; omega
          have HM2 : Hid ((kf sc).e = 0 → s2.e = 0 ∧ s2.l = (dn ++ [y]).flatMap enc ++ (kf sc).l ∧ (dn ++ [y]).any bad = false) := fun h => by
            obtain ⟨a1, a2, a3⟩ := HC2.out
            obtain ⟨b1, b2⟩ := hcy.out h
            refine ⟨a1, ?_, ?_⟩
            · rw [a2, b1, List.flatMap_append, List.append_assoc]
              simp
            · rw [List.any_append, a3, List.any_cons, b2]
              rfl
          clear hcy HC2 hok d1 he' he2 k1 k2 k3
          generalize kf sc = s3 at hr3 HM HM2
          unfold Sm.v
          try unfold Hd.v
          go_wp2_with (at_builtin; refine wpList_app1 w3 (by rfl) _ _ 52 (by rfl) w.heap.size 137 i0 _ 2 16 (by kernel_rfl) hi0 hz0 hz1 hz2 rfl (by decide) (by decide) _ k _ (by rfl) hownA #[.int .i64 y.first, .int .i64 y.most] rfl (by simp [Value.oneCell']) (by rfl) (by omega) (by omega) ?_; intro v' w4 hown4 hf4 hat4)
          have hr4 : RdSt w4 g B s3 := hr3.fr hf4 (fun k hk => Nat.le_trans hBw (hownA.lt k hk).1)
          have hok4 : ∀ x ∈ dn ++ [y], rdSm.ok w4 x := fun x hx => by
            rcases List.mem_append.1 hx with hx | hx
            · exact ftSm.fr (hok3 x hx) hf4 (fun b hb => (hbl x hx b hb).2)
            · obtain rfl := List.mem_singleton.1 hx
              exact ftSm.fr hoy hf4 hby2
          have hbl4 : ∀ x ∈ dn ++ [y], ∀ b, ftSm.blk x b → w.heap.size ≤ b ∧ v'.ownBlock ≠ some b := fun x hx b hb => by
            have hx2 : w.heap.size ≤ b ∧ v.ownBlock ≠ some b ∧ b < w3.heap.size := by
              rcases List.mem_append.1 hx with hx | hx
              · exact ⟨(hbl x hx b hb).1, (hbl x hx b hb).2, hlt3 x hx b hb⟩
              · obtain rfl := List.mem_singleton.1 hx
                exact ⟨Nat.le_trans hsz (hby b hb), hby2 b hb, hlty b hb⟩
            refine ⟨hx2.1, fun e => ?_⟩
            rcases hat4 with h | ⟨g', h, hg'⟩
            · exact hx2.2.1 (h ▸ e)
            · rw [h] at e
              cases e
              omega
          exact ⟨⟨_, k + 1, dn ++ [y], s3, rfl, by omega, by go_num, by simp [hdl], by rw [List.flatMap_append]; simpa [rdSm, Sm.f, Hd.v] using hown4, hok4, hbl4, hr4, (hfw.trans hf3).trans' (hf4.mono (S' := fun k => w.heap.size ≤ k) (fun k _ hk => (hownA.lt k hk).1)) (fun k hk h => by omega), .inl hN5, by omega, HM, HM2⟩, by simp [intOf]; omega⟩
        · have hfin : kL kf s = sc := by
            rw [HL.out, HG.out]
            have : N - k = 0 := by omega
            rw [this]
            rfl
          have HC2 := HC.out he
          have hv2 := HV2.out HC2.1
          have hkn2 : (k : Int) = n := by
            by_cases hk0 : 0 < k
            · have := hkn hk0; omega
            · have := hv2.2; omega
          have HFIN := Lib.hid hfin
          have hkN' : ¬ (k : Int) < n := hkN
          have HE : Hid (sc.e = 0 → s.l = lst enc dn ++ sc.l ∧ badL bad dn = false) := fun _ => by
            refine ⟨?_, ?_⟩
            · rw [hv2.1, HC2.2.1, ← hkn2, ← hdl]
              unfold lst
              rw [List.append_assoc]
            · unfold badL
              rw [HC2.2.2, hdl]
              simp
              omega
          obtain ⟨A9, c9, hv9, hs9, hb9⟩ := SlG.of_own hown (fun x _ => rdSm.len x) hdl
          clear hfin he hbg HG HL HC HC2 hv2
          go_wp2_with fail
          go_ret
          rw [HFIN.out]
          refine ⟨⟨A9, c9, dn⟩, by show Ending.returned (.slice A9 k c9) = .returned (.slice A9 dn.length c9); rw [hdl], ⟨by rw [← hdl] at hs9; exact hs9, hok⟩, fun b hb => ?_, hr, hfw, HE⟩
          rcases hb with ⟨_, o, e⟩ | ⟨x, hx, hb⟩
          · exact hb9 b o e
          · exact (hbl x hx b hb).1
      · have he' : (sc.e == 0) = false := by simpa using he
        have he2 : (sc.e != 0) = true := by simpa using he
        have hfin : kL kf s = sc := by
          rw [HL.out, HG.out, kRep_err he]
        have HFIN := Lib.hid hfin
        have HE : Hid (sc.e = 0 → s.l = lst enc [] ++ sc.l ∧ badL bad ([] : List Sm) = false) := fun h => absurd h he
        clear hfin he hbg HG HL HC
        by_cases hkN : (k : Int) < n
        all_goals
          go_wp2_with fail
          go_ret
          rw [HFIN.out]
          refine ⟨⟨none, 0, []⟩, rfl, ⟨SlG.nil _ _ _, fun x h => by cases h⟩, fun b hb => ?_, hr, hfw, HE⟩
          rcases hb with ⟨h, _⟩ | ⟨x, hx, _⟩
          · exact absurd h (by simp)
          · cases hx
theorem rdSome_Sm {enc : Sm → List UInt8} {bad : Sm → Bool} {kf : RS → RS} (hF : OneR ftSm 92 Sm.v enc bad kf) : ListR ftSm 91 (fun g => #[.pointer (some ⟨g, 0, none⟩), .func (.func 92) #[] #[]]) enc bad kf := by
  intro w g B s h
  go_enter Tryz.func91, Tryz.ntmps91
  go_wp2_with fail
  refine (rdList_Sm hF w g B s h).mono ?_
  rintro e w2 ⟨y, rfl, h1, h2, h3, h4, h5⟩
  go_wp2_with fail
  go_ret
  exact ⟨y, rfl, h1, h2, h3, h4, h5⟩
end Go.Proofs.YtahjnonkhbpnpaaGreat
