/- The document's May: Channel returns something. -/
import Derived.Test.YtiglabknaldinaaMayE
namespace Go.Proofs.Ytiglabknaldinaa
open Go.RowKit
set_option maxRecDepth 100000 in
theorem run_eqE (a b c d : Int) (w : World) : (Op.equalIn 10000 105 (.agg #[.int .i64 a, .int .i64 b]) (.agg #[.int .i64 c, .int .i64 d])).run Try.prog w = .ok ((a == c) && (b == d)) w := by
  have hS : Try.prog.underlying 105 = some (.struct (Try.prog.fieldsOf 105)) := by kernel_rfl
  have hp : Try.prog.stoodInHeld 105 = false := by kernel_rfl
  rw [show (10000 : Nat) = 9999 + 1 from rfl, run_equalIn_agg w 9999 105 _ _ hS hp]
  simp only [Program.fieldsOf, Try.underlying105]
  have ui := u_int
  have ai := Try.isAgg3
  have zi := Try.sizeOf3
  clear hS hp
  go_simp
  by_cases h0 : a = c <;> by_cases h1 : b = d <;> simp [h0, h1]
set_option maxRecDepth 100000 in
set_option maxHeartbeats 12800000 in
theorem channel_any {w : World} {x : Cf} (hx : rdCf.ok w x) (k : Int) : Calls Try.prog 27 #[.agg #[.slice x.parts.A x.parts.l.length x.parts.c, .slice x.chans.A x.chans.l.length x.chans.c, .slice x.modes.A x.modes.l.length x.modes.c, .slice x.pw.levels.A x.pw.levels.l.length x.pw.levels.c, .slice x.pw.naps.A x.pw.naps.l.length x.pw.naps.c, .int .i64 x.pw.sw, .int .i64 x.pw.idle, .int .i64 x.pw.change, .int .i64 x.pw.quant, .int .i64 x.pw.slow, .int .i64 x.pw.ppm, .slice x.shed.down.A x.shed.down.l.length x.shed.down.c, .slice x.shed.up.A x.shed.up.l.length x.shed.up.c], .int .i64 k] w (BoolP w) := by
  have n1 := hx.2.1.1.len
  have hm : Try.prog.eqGuardType Try.prog.depth 105 = false := by kernel_rfl
  have hb1 := (Below.refl w.heap.size w).alloc (Nat.le_refl _) (.cells #[.slice x.parts.A x.parts.l.length x.parts.c, .slice x.chans.A x.chans.l.length x.chans.c, .slice x.modes.A x.modes.l.length x.modes.c, .slice x.pw.levels.A x.pw.levels.l.length x.pw.levels.c, .slice x.pw.naps.A x.pw.naps.l.length x.pw.naps.c, .int .i64 x.pw.sw, .int .i64 x.pw.idle, .int .i64 x.pw.change, .int .i64 x.pw.quant, .int .i64 x.pw.slow, .int .i64 x.pw.ppm, .slice x.shed.down.A x.shed.down.l.length x.shed.down.c, .slice x.shed.up.A x.shed.up.l.length x.shed.up.c] 33)
  have k1 := Blk.new w 33 #[.slice x.parts.A x.parts.l.length x.parts.c, .slice x.chans.A x.chans.l.length x.chans.c, .slice x.modes.A x.modes.l.length x.modes.c, .slice x.pw.levels.A x.pw.levels.l.length x.pw.levels.c, .slice x.pw.naps.A x.pw.naps.l.length x.pw.naps.c, .int .i64 x.pw.sw, .int .i64 x.pw.idle, .int .i64 x.pw.change, .int .i64 x.pw.quant, .int .i64 x.pw.slow, .int .i64 x.pw.ppm, .slice x.shed.down.A x.shed.down.l.length x.shed.down.c, .slice x.shed.up.A x.shed.up.l.length x.shed.up.c]
  go_enter Try.func27, Try.ntmps27
  go_upto_region 1 with fail
  generalize w.alloc (.cells #[.slice x.parts.A x.parts.l.length x.parts.c, .slice x.chans.A x.chans.l.length x.chans.c, .slice x.modes.A x.modes.l.length x.modes.c, .slice x.pw.levels.A x.pw.levels.l.length x.pw.levels.c, .slice x.pw.naps.A x.pw.naps.l.length x.pw.naps.c, .int .i64 x.pw.sw, .int .i64 x.pw.idle, .int .i64 x.pw.change, .int .i64 x.pw.quant, .int .i64 x.pw.slow, .int .i64 x.pw.ppm, .slice x.shed.down.A x.shed.down.l.length x.shed.down.c, .slice x.shed.up.A x.shed.up.l.length x.shed.up.c] 33) = w1 at hb1 k1 ⊢
  obtain ⟨gx, hgx⟩ : ∃ gx, gx = w.heap.size := ⟨_, rfl⟩
  rw [← hgx] at k1 ⊢
  clear hgx
  have c0 : w1.cell? ⟨gx, 0, none⟩ = some (.slice x.parts.A x.parts.l.length x.parts.c) := k1.cell 0
  have c1 : w1.cell? ⟨gx, 1, none⟩ = some (.slice x.chans.A x.chans.l.length x.chans.c) := k1.cell 1
  have c2 : w1.cell? ⟨gx, 2, none⟩ = some (.slice x.modes.A x.modes.l.length x.modes.c) := k1.cell 2
  have c3 : w1.cell? ⟨gx, 3, none⟩ = some (.slice x.pw.levels.A x.pw.levels.l.length x.pw.levels.c) := k1.cell 3
  have c4 : w1.cell? ⟨gx, 4, none⟩ = some (.slice x.pw.naps.A x.pw.naps.l.length x.pw.naps.c) := k1.cell 4
  have c5 : w1.cell? ⟨gx, 5, none⟩ = some (.int .i64 x.pw.sw) := k1.cell 5
  have c6 : w1.cell? ⟨gx, 6, none⟩ = some (.int .i64 x.pw.idle) := k1.cell 6
  have c7 : w1.cell? ⟨gx, 7, none⟩ = some (.int .i64 x.pw.change) := k1.cell 7
  have c8 : w1.cell? ⟨gx, 8, none⟩ = some (.int .i64 x.pw.quant) := k1.cell 8
  have c9 : w1.cell? ⟨gx, 9, none⟩ = some (.int .i64 x.pw.slow) := k1.cell 9
  have c10 : w1.cell? ⟨gx, 10, none⟩ = some (.int .i64 x.pw.ppm) := k1.cell 10
  have c11 : w1.cell? ⟨gx, 11, none⟩ = some (.slice x.shed.down.A x.shed.down.l.length x.shed.down.c) := k1.cell 11
  have c12 : w1.cell? ⟨gx, 12, none⟩ = some (.slice x.shed.up.A x.shed.up.l.length x.shed.up.c) := k1.cell 12
  have lx := k1.lt
  by_cases hr : 0 ≤ k ∧ k < x.chans.l.length
  rotate_left
  · refine wp_region_fen (fun _ => False) [(17, 0), (10, 0)] (by kernel_rfl) (by kernel_rfl) ?_
    simp only [wpSegsF, List.take, List.drop]
    by_cases q1 : k < 0
    · have q1' : decide (k < 0) = true := decide_eq_true q1
      clear q1 hr
      repeat (go_big_quiet_step (fail))
      refine wpQuiet_nil (wpHeadF_skip rfl ?_)
      try simp only [wpSegsF, List.take, List.drop]
      simp only [Act.put, List.setIfInBounds_toArray, List.set_cons_succ, List.set_cons_zero]
      repeat (go_big_quiet_step (fail))
      refine wpQuiet_nil (wpHeadF_skip rfl ?_)
      try simp only [wpSegsF, List.take, List.drop]
      simp only [Act.put, List.setIfInBounds_toArray, List.set_cons_succ, List.set_cons_zero]
      repeat (go_big_quiet_step (fail))
      refine wpQuiet_nil ?_
      go_wp2_with fail
      go_ret
      exact BoolP.mk false rfl hb1.drew
    · have q1' : decide (k < 0) = false := by simpa using q1
      have q2' : decide ((x.chans.l.length : Int) ≤ k) = true := decide_eq_true (by omega)
      clear q1 hr
      repeat (go_big_quiet_step (fail))
      refine wpQuiet_nil (wpHeadF_skip rfl ?_)
      try simp only [wpSegsF, List.take, List.drop]
      simp only [Act.put, List.setIfInBounds_toArray, List.set_cons_succ, List.set_cons_zero]
      repeat (go_big_quiet_step (fail))
      refine wpQuiet_nil (wpHeadF_skip rfl ?_)
      try simp only [wpSegsF, List.take, List.drop]
      simp only [Act.put, List.setIfInBounds_toArray, List.set_cons_succ, List.set_cons_zero]
      repeat (go_big_quiet_step (fail))
      refine wpQuiet_nil ?_
      go_wp2_with fail
      go_ret
      exact BoolP.mk false rfl hb1.drew
  obtain ⟨hr0, hr1⟩ := hr
  obtain ⟨m, rfl⟩ := Int.eq_ofNat_of_zero_le hr0
  have hm1 : m < x.chans.l.length := by omega
  clear hr1
  obtain ⟨sb, so, hA, hsb, hsc⟩ := (rdChs.keep hx.2.1 hb1).1.at_ Ch0 hm1
  have s0 : w1.cell? ⟨sb, so + m * 4, none⟩ = some (.int .i64 (atD Ch0 x.chans.l m).fr.part) := hsc 0 _ rfl
  have s1 : w1.cell? ⟨sb, so + m * 4 + 1, none⟩ = some (.int .i64 (atD Ch0 x.chans.l m).fr.port) := hsc 1 _ rfl
  have s2 : w1.cell? ⟨sb, so + m * 4 + 2, none⟩ = some (.int .i64 (atD Ch0 x.chans.l m).to.part) := hsc 2 _ rfl
  have s3 : w1.cell? ⟨sb, so + m * 4 + 3, none⟩ = some (.int .i64 (atD Ch0 x.chans.l m).to.port) := hsc 3 _ rfl
  have HA := Lib.hid hA
  rw [hA] at c1
  clear hA hsc
  generalize atD Ch0 x.chans.l m = y at s0 s1 s2 s3
  have q1' : decide ((m : Int) < 0) = false := decide_eq_false (by omega)
  have q2' : decide (x.chans.l.length ≤ m) = false := decide_eq_false (by omega)
  refine wp_region_fen (fun _ => False) [(17, 0), (10, 0)] (by kernel_rfl) (by kernel_rfl) ?_
  simp only [wpSegsF, List.take, List.drop]
  repeat (go_big_quiet_step (fail))
  refine wpQuiet_nil (wpHeadF_want rfl (fun K' hK' => ?_))
  go_wp2_with fail
  have HI := is_any (w := w1.drew) (rdCf.keep hx hb1.drew) y.fr.part y.fr.port
  rw [HA.out] at HI
  refine HI.mono ?_
  clear HI
  rintro e w2 ⟨r1, rfl, hr1, hb2⟩
  have hL2 : Below w1.heap.size w1 w2 := (Below.drew (Below.refl w1.heap.size w1)).trans hb2
  have HR1 := Lib.hid hr1
  clear hr1 hb2
  refine hK' _ _ rfl (fr_graft (Fr.of_below hL2 _)) ?_
  clear hK' K'
  try simp only [wpSegsF, List.take, List.drop]
  have hB2 := hb1.trans (hL2.mono hb1.size)
  cases r1 with
  | false =>
    repeat (go_big_quiet_step (fail))
    refine wpQuiet_nil (wpHeadF_skip rfl ?_)
    try simp only [wpSegsF, List.take, List.drop]
    simp only [Act.put, List.setIfInBounds_toArray, List.set_cons_succ, List.set_cons_zero]
    repeat (go_big_quiet_step (fail))
    refine wpQuiet_nil ?_
    go_wp2_with fail
    go_ret
    exact BoolP.mk false rfl hB2
  | true =>
    have f1 := HR1.out (by first | rfl | trivial)
    repeat (go_big_quiet_step (fail))
    refine wpQuiet_nil (wpHeadF_want rfl (fun K' hK' => ?_))
    go_wp2_with fail
    have HI := is_any (rdCf.keep hx hB2) y.to.part y.to.port
    rw [HA.out] at HI
    refine HI.mono ?_
    clear HI
    rintro e w3 ⟨r2, rfl, hr2, hb3⟩
    have hL3 := hL2.trans (hb3.mono hL2.size)
    have HR2 := Lib.hid hr2
    clear hr2 hb3
    refine hK' _ _ rfl (fr_graft (Fr.of_below hL3 _)) ?_
    clear hK' K'
    try simp only [wpSegsF, List.take, List.drop]
    have hB3 := hb1.trans (hL3.mono hb1.size)
    cases r2 with
    | false =>
      repeat (go_big_quiet_step (fail))
      refine wpQuiet_nil ?_
      go_wp2_with fail
      go_ret
      exact BoolP.mk false rfl hB3
    | true =>
      have f2 := HR2.out (by first | rfl | trivial)
      repeat (go_big_quiet_step (fail))
      refine wpQuiet_nil ?_
      have k3 := k1.keep hL3
      have d0 := (hL3.cell (p := ⟨sb, so + m * 4, none⟩) hsb).trans s0
      have d1 := (hL3.cell (p := ⟨sb, so + m * 4 + 1, none⟩) hsb).trans s1
      have d2 := (hL3.cell (p := ⟨sb, so + m * 4 + 2, none⟩) hsb).trans s2
      have d3 := (hL3.cell (p := ⟨sb, so + m * 4 + 3, none⟩) hsb).trans s3
      have hsb3 := Nat.lt_of_lt_of_le hsb hL3.size
      clear s0 s1 s2 s3 c0 c1 c2 c3 c4 c5 c6 c7 c8 c9 c10 c11 c12 lx
      have lx := k3.lt
      have c1 : w3.cell? ⟨gx, 1, none⟩ = some (.slice (some ⟨sb, so, none⟩) x.chans.l.length x.chans.c) := by rw [← HA.out]; exact k3.cell 1
      have ba := (Below.refl w3.heap.size w3).alloc (Nat.le_refl _) (.cells #[.int .i64 y.fr.part, .int .i64 y.fr.port, .int .i64 y.to.part, .int .i64 y.to.port] 107)
      have kb := Blk.new w3 107 #[.int .i64 y.fr.part, .int .i64 y.fr.port, .int .i64 y.to.part, .int .i64 y.to.port]
      have kx := k3.keep ba
      go_upto_region 4 with fail
      generalize w3.alloc (.cells #[.int .i64 y.fr.part, .int .i64 y.fr.port, .int .i64 y.to.part, .int .i64 y.to.port] 107) = wb at ba kb kx ⊢
      obtain ⟨gy, hgy⟩ : ∃ gy, gy = w3.heap.size := ⟨_, rfl⟩
      rw [← hgy] at kb ⊢
      clear hgy
      have hL4 := hL3.trans (ba.mono hL3.size)
      have hB4 := hb1.trans (hL4.mono hb1.size)
      clear d0 d1 d2 d3 c1 lx
      have lx := kx.lt
      have ly := kb.lt
      obtain ⟨p1, hp1⟩ := Int.eq_ofNat_of_zero_le f1.1
      obtain ⟨q1, hq1⟩ := Int.eq_ofNat_of_zero_le f1.2.2.1
      obtain ⟨p2, hp2⟩ := Int.eq_ofNat_of_zero_le f2.1
      obtain ⟨q2, hq2⟩ := Int.eq_ofNat_of_zero_le f2.2.2.1
      have P1 : p1 < x.parts.l.length := by have := f1.2.1; omega
      have P2 : p2 < x.parts.l.length := by have := f2.2.1; omega
      have Q1 : q1 < (atD Pt0 x.parts.l p1).ports.l.length := by have := f1.2.2.2; rw [hp1, hq1, Int.toNat_natCast] at this; omega
      have Q2 : q2 < (atD Pt0 x.parts.l p2).ports.l.length := by have := f2.2.2.2; rw [hp2, hq2, Int.toNat_natCast] at this; omega
      rw [hp1, hq1, hp2, hq2] at kb
      clear f1 f2 HR1 HR2 hp1 hq1 hp2 hq2 q1' q2' k1 k3 lx ly
      obtain ⟨sp, sq, hPA, -, -⟩ := (rdPts.keep hx.1 hB4).1.at_ Pt0 P1
      have HPA := Lib.hid hPA
      clear hPA
      have hBwb := hb1.trans (hL4.mono hb1.size)
      obtain ⟨sp1, sq1, hPA1, hsp1, hspc1⟩ := (rdPts.keep hx.1 hBwb).1.at_ Pt0 P1
      rw [HPA.out] at hPA1
      cases hPA1
      have t1 : wb.cell? ⟨sp, sq + p1 * 11 + 2, none⟩ = some (.slice (atD Pt0 x.parts.l p1).ports.A (atD Pt0 x.parts.l p1).ports.l.length (atD Pt0 x.parts.l p1).ports.c) := hspc1 2 _ rfl
      obtain ⟨su1, sv1, hUA1, hsu1, hsuc1⟩ := ((rdPts.keep hx.1 hBwb).2 _ (atD_mem (d := Pt0) P1)).2.2.1.1.at_ Po0 Q1
      have u0 : wb.cell? ⟨su1, sv1 + q1 * 4, none⟩ = some (.bool (atD Po0 (atD Pt0 x.parts.l p1).ports.l q1).q) := hsuc1 0 _ rfl
      have u1 : wb.cell? ⟨su1, sv1 + q1 * 4 + 1, none⟩ = some (.bool (atD Po0 (atD Pt0 x.parts.l p1).ports.l q1).inn) := hsuc1 1 _ rfl
      have u2 : wb.cell? ⟨su1, sv1 + q1 * 4 + 2, none⟩ = some (.int .i64 (atD Po0 (atD Pt0 x.parts.l p1).ports.l q1).size) := hsuc1 2 _ rfl
      have u3 : wb.cell? ⟨su1, sv1 + q1 * 4 + 3, none⟩ = some (.int .i64 (atD Po0 (atD Pt0 x.parts.l p1).ports.l q1).depth) := hsuc1 3 _ rfl
      rw [hUA1] at t1
      clear hUA1 hspc1 hsuc1
      generalize atD Po0 (atD Pt0 x.parts.l p1).ports.l q1 = a1 at u0 u1 u2 u3
      generalize (atD Pt0 x.parts.l p1).ports.l.length = n1 at t1 Q1
      generalize (atD Pt0 x.parts.l p1).ports.c = m1 at t1
      have c0 : wb.cell? ⟨gx, 0, none⟩ = some (.slice (some ⟨sp, sq, none⟩) x.parts.l.length x.parts.c) := by rw [← HPA.out]; exact kx.cell 0
      have e0 : wb.cell? ⟨gy, 0, none⟩ = some (.int .i64 (p1 : Int)) := kb.cell 0
      have e1 : wb.cell? ⟨gy, 1, none⟩ = some (.int .i64 (q1 : Int)) := kb.cell 1
      have lx := kx.lt
      have ly := kb.lt
      go_upto_region 4 with fail
      refine wp_region_fen (fun _ => False) [(13, 0), (0, 2)] (by kernel_rfl) (by kernel_rfl) ?_
      simp only [wpSegsF, List.take, List.drop]
      repeat (go_big_quiet_step (fail))
      refine wpQuiet_nil (wpHeadF_want rfl (fun K' hK' => ?_))
      go_wp2_with fail
      have bA := ((Below.refl wb.heap.size wb).alloc (Nat.le_refl _) (.cells #[.bool false, .bool false, .int .i64 0, .int .i64 0] 97)).drew
      have kA : Blk (wb.alloc (.cells #[.bool false, .bool false, .int .i64 0, .int .i64 0] 97)).drew wb.heap.size 97 #[.bool false, .bool false, .int .i64 0, .int .i64 0] := Blk.new wb 97 #[.bool false, .bool false, .int .i64 0, .int .i64 0]
      refine hK' _ _ rfl (fr_graft (Fr.of_below bA _)) ?_
      clear hK' K'
      generalize (wb.alloc (.cells #[.bool false, .bool false, .int .i64 0, .int .i64 0] 97)).drew = wc at bA kA ⊢
      obtain ⟨ga, hga⟩ : ∃ g, g = wb.heap.size := ⟨_, rfl⟩
      rw [← hga] at kA ⊢
      have Hga := Nat.le_of_eq hga.symm
      clear hga
      try simp only [wpSegsF, List.take, List.drop]
      repeat (go_big_quiet_step (fail))
      refine wpQuiet_nil (wpHeadF_bar rfl (fun K' hK' => ?_))
      have z0 : wc.cell? ⟨ga, 0, none⟩ = some (.bool false) := kA.cell 0
      have z1 : wc.cell? ⟨ga, 1, none⟩ = some (.bool false) := kA.cell 1
      have z2 : wc.cell? ⟨ga, 2, none⟩ = some (.int .i64 0) := kA.cell 2
      have z3 : wc.cell? ⟨ga, 3, none⟩ = some (.int .i64 0) := kA.cell 3
      have zf : ∀ i, wc.frozen? ⟨ga, i, none⟩ = false := kA.frozen
      have zl := kA.lt
      go_wp2_with fail
      have kga : Blk (setRow wc ga 0 [.bool a1.q, .bool a1.inn, .int .i64 a1.size, .int .i64 a1.depth]) ga 97 #[.bool a1.q, .bool a1.inn, .int .i64 a1.size, .int .i64 a1.depth] := Blk.row kA rfl
      have bga := Below.row (g := ga) [.bool a1.q, .bool a1.inn, .int .i64 a1.size, .int .i64 a1.depth] 0 bA Hga
      refine hK' _ _ (fun _ => False) rfl ?_
      clear hK' K' z0 z1 z2 z3 zf zl kA bA
      unfold setRow at kga bga
      unfold setRow at kga bga
      unfold setRow at kga bga
      unfold setRow at kga bga
      unfold setRow at kga bga
      simp only [Nat.zero_add, Nat.reduceAdd] at kga bga
      generalize hW : World.setCell _ _ _ = wd at kga bga ⊢
      clear hW
      have hL5 := hL4.trans (bga.mono hL4.size)
      replace kx := kx.keep bga
      replace kb := kb.keep bga
      clear u0 u1 u2 u3 t1 c0 e0 e1 lx ly
      try simp only [wpSegsF]
      refine wpQuiet_nil ?_
      have hBwd := hb1.trans (hL5.mono hb1.size)
      obtain ⟨sp2, sq2, hPA2, hsp2, hspc2⟩ := (rdPts.keep hx.1 hBwd).1.at_ Pt0 P2
      rw [HPA.out] at hPA2
      cases hPA2
      have t2 : wd.cell? ⟨sp, sq + p2 * 11 + 2, none⟩ = some (.slice (atD Pt0 x.parts.l p2).ports.A (atD Pt0 x.parts.l p2).ports.l.length (atD Pt0 x.parts.l p2).ports.c) := hspc2 2 _ rfl
      obtain ⟨su2, sv2, hUA2, hsu2, hsuc2⟩ := ((rdPts.keep hx.1 hBwd).2 _ (atD_mem (d := Pt0) P2)).2.2.1.1.at_ Po0 Q2
      have u0 : wd.cell? ⟨su2, sv2 + q2 * 4, none⟩ = some (.bool (atD Po0 (atD Pt0 x.parts.l p2).ports.l q2).q) := hsuc2 0 _ rfl
      have u1 : wd.cell? ⟨su2, sv2 + q2 * 4 + 1, none⟩ = some (.bool (atD Po0 (atD Pt0 x.parts.l p2).ports.l q2).inn) := hsuc2 1 _ rfl
      have u2 : wd.cell? ⟨su2, sv2 + q2 * 4 + 2, none⟩ = some (.int .i64 (atD Po0 (atD Pt0 x.parts.l p2).ports.l q2).size) := hsuc2 2 _ rfl
      have u3 : wd.cell? ⟨su2, sv2 + q2 * 4 + 3, none⟩ = some (.int .i64 (atD Po0 (atD Pt0 x.parts.l p2).ports.l q2).depth) := hsuc2 3 _ rfl
      rw [hUA2] at t2
      clear hUA2 hspc2 hsuc2
      generalize atD Po0 (atD Pt0 x.parts.l p2).ports.l q2 = a2 at u0 u1 u2 u3
      generalize (atD Pt0 x.parts.l p2).ports.l.length = n2 at t2 Q2
      generalize (atD Pt0 x.parts.l p2).ports.c = m2 at t2
      have c0 : wd.cell? ⟨gx, 0, none⟩ = some (.slice (some ⟨sp, sq, none⟩) x.parts.l.length x.parts.c) := by rw [← HPA.out]; exact kx.cell 0
      have e0 : wd.cell? ⟨gy, 2, none⟩ = some (.int .i64 (p2 : Int)) := kb.cell 2
      have e1 : wd.cell? ⟨gy, 3, none⟩ = some (.int .i64 (q2 : Int)) := kb.cell 3
      have lx := kx.lt
      have ly := kb.lt
      go_upto_region 5 with fail
      refine wp_region_fen (fun _ => False) [(13, 0), (0, 2)] (by kernel_rfl) (by kernel_rfl) ?_
      simp only [wpSegsF, List.take, List.drop]
      repeat (go_big_quiet_step (fail))
      refine wpQuiet_nil (wpHeadF_want rfl (fun K' hK' => ?_))
      go_wp2_with fail
      have bA := ((Below.refl wd.heap.size wd).alloc (Nat.le_refl _) (.cells #[.bool false, .bool false, .int .i64 0, .int .i64 0] 97)).drew
      have kA : Blk (wd.alloc (.cells #[.bool false, .bool false, .int .i64 0, .int .i64 0] 97)).drew wd.heap.size 97 #[.bool false, .bool false, .int .i64 0, .int .i64 0] := Blk.new wd 97 #[.bool false, .bool false, .int .i64 0, .int .i64 0]
      refine hK' _ _ rfl (fr_graft (Fr.of_below bA _)) ?_
      clear hK' K'
      generalize (wd.alloc (.cells #[.bool false, .bool false, .int .i64 0, .int .i64 0] 97)).drew = we at bA kA ⊢
      obtain ⟨gb, hgb⟩ : ∃ g, g = wd.heap.size := ⟨_, rfl⟩
      rw [← hgb] at kA ⊢
      have Hgb := Nat.le_of_eq hgb.symm
      clear hgb
      try simp only [wpSegsF, List.take, List.drop]
      repeat (go_big_quiet_step (fail))
      refine wpQuiet_nil (wpHeadF_bar rfl (fun K' hK' => ?_))
      have z0 : we.cell? ⟨gb, 0, none⟩ = some (.bool false) := kA.cell 0
      have z1 : we.cell? ⟨gb, 1, none⟩ = some (.bool false) := kA.cell 1
      have z2 : we.cell? ⟨gb, 2, none⟩ = some (.int .i64 0) := kA.cell 2
      have z3 : we.cell? ⟨gb, 3, none⟩ = some (.int .i64 0) := kA.cell 3
      have zf : ∀ i, we.frozen? ⟨gb, i, none⟩ = false := kA.frozen
      have zl := kA.lt
      go_wp2_with fail
      have kgb : Blk (setRow we gb 0 [.bool a2.q, .bool a2.inn, .int .i64 a2.size, .int .i64 a2.depth]) gb 97 #[.bool a2.q, .bool a2.inn, .int .i64 a2.size, .int .i64 a2.depth] := Blk.row kA rfl
      have bgb := Below.row (g := gb) [.bool a2.q, .bool a2.inn, .int .i64 a2.size, .int .i64 a2.depth] 0 bA Hgb
      refine hK' _ _ (fun _ => False) rfl ?_
      clear hK' K' z0 z1 z2 z3 zf zl kA bA
      unfold setRow at kgb bgb
      unfold setRow at kgb bgb
      unfold setRow at kgb bgb
      unfold setRow at kgb bgb
      unfold setRow at kgb bgb
      simp only [Nat.zero_add, Nat.reduceAdd] at kgb bgb
      generalize hW : World.setCell _ _ _ = wf at kgb bgb ⊢
      clear hW
      have hL6 := hL5.trans (bgb.mono hL5.size)
      replace kx := kx.keep bgb
      replace kb := kb.keep bgb
      clear u0 u1 u2 u3 t2 c0 e0 e1 lx ly
      try simp only [wpSegsF]
      refine wpQuiet_nil ?_
      replace kga := kga.keep bgb
      have hBwf := hb1.trans (hL6.mono hb1.size)
      clear bga bgb hL2 hL3 hL4 hL5 hB2 hB3 hB4 hBwb hBwd hsp1 hsp2 hsu1 hsu2 hsb3 hsb ba Hga Hgb P1 P2 Q1 Q2 HPA
      generalize (p1 : Int) = i1 at kb ⊢
      generalize (q1 : Int) = j1 at kb ⊢
      generalize (p2 : Int) = i2 at kb ⊢
      generalize (q2 : Int) = j2 at kb ⊢
      obtain ⟨qa, ia, sa, da⟩ := a1
      obtain ⟨qb, ib, sz, db⟩ := a2
      dsimp only at kga kgb
      go_upto_region 6 with fail
      have lx := kx.lt
      have ly := kb.lt
      have la := kga.lt
      have lb := kgb.lt
      have e0 : wf.cell? ⟨gy, 0, none⟩ = some (.int .i64 i1) := kb.cell 0
      have e2 : wf.cell? ⟨gy, 2, none⟩ = some (.int .i64 i2) := kb.cell 2
      have u0 : wf.cell? ⟨ga, 0, none⟩ = some (.bool qa) := kga.cell 0
      have u1 : wf.cell? ⟨ga, 1, none⟩ = some (.bool ia) := kga.cell 1
      have u2 : wf.cell? ⟨ga, 2, none⟩ = some (.int .i64 sa) := kga.cell 2
      have v0 : wf.cell? ⟨gb, 0, none⟩ = some (.bool qb) := kgb.cell 0
      have v1 : wf.cell? ⟨gb, 1, none⟩ = some (.bool ib) := kgb.cell 1
      have v2 : wf.cell? ⟨gb, 2, none⟩ = some (.int .i64 sz) := kgb.cell 2
      generalize he : (i1 == i2) = be
      cases be with
      | true =>
        go_wp2_with fail
        go_ret
        exact BoolP.mk false rfl hBwf
      | false =>
        cases ia with
        | true =>
          go_wp2_with fail
          go_ret
          exact BoolP.mk false rfl hBwf
        | false =>
          cases ib with
          | false =>
            go_wp2_with fail
            go_ret
            exact BoolP.mk false rfl hBwf
          | true =>
            cases qa with
            | false =>
              cases qb with
              | true =>
                go_wp2_with fail
                go_ret
                exact BoolP.mk false rfl hBwf
              | false =>
                generalize hs : decide (sz < sa) = bs
                cases bs with
                | true =>
                  go_wp2_with fail
                  go_ret
                  exact BoolP.mk false rfl hBwf
                | false =>
                  go_wp2_with fail
                  go_loopw [8] (fun i wr => ∃ (k : Nat), k ≤ m ∧ i = .int .i64 (k : Int) ∧ Below wf.heap.size wf wr) (fun i _ => m - (intOf i).toNat)
                  case atStart => exact ⟨0, Nat.zero_le _, rfl, Below.refl _ _⟩
                  case round =>
                    clear e0 e2 u0 u1 u2 v0 v1 v2 lx ly la lb he hs
                    obtain ⟨k, hk, rfl, hbw⟩ := hrel
                    obtain ⟨wa, hwa⟩ : ∃ w : World, w = wr := ⟨_, rfl⟩
                    subst hwa
                    have hBa := hBwf.trans (hbw.mono hBwf.size)
                    have ka := kx.keep hbw
                    have kc := kb.keep hbw
                    have kd := kga.keep hbw
                    have lx := ka.lt
                    have ly := kc.lt
                    have la := kd.lt
                    by_cases hlt : k < m
                    · have e0 : wa.cell? ⟨gy, 0, none⟩ = some (.int .i64 i1) := kc.cell 0
                      have e1 : wa.cell? ⟨gy, 1, none⟩ = some (.int .i64 j1) := kc.cell 1
                      have e2 : wa.cell? ⟨gy, 2, none⟩ = some (.int .i64 i2) := kc.cell 2
                      have e3 : wa.cell? ⟨gy, 3, none⟩ = some (.int .i64 j2) := kc.cell 3
                      have u0 : wa.cell? ⟨ga, 0, none⟩ = some (.bool false) := kd.cell 0
                      have c1 : wa.cell? ⟨gx, 1, none⟩ = some (.slice (some ⟨sb, so, none⟩) x.chans.l.length x.chans.c) := by rw [← HA.out]; exact ka.cell 1
                      obtain ⟨sb2, so2, hA2, hsb, hsc⟩ := (rdChs.keep hx.2.1 hBa).1.at_ Ch0 (k := k) (by omega)
                      rw [HA.out] at hA2
                      cases hA2
                      have s0 : wa.cell? ⟨sb, so + k * 4, none⟩ = some (.int .i64 (atD Ch0 x.chans.l k).fr.part) := hsc 0 _ rfl
                      have s1 : wa.cell? ⟨sb, so + k * 4 + 1, none⟩ = some (.int .i64 (atD Ch0 x.chans.l k).fr.port) := hsc 1 _ rfl
                      have s2 : wa.cell? ⟨sb, so + k * 4 + 2, none⟩ = some (.int .i64 (atD Ch0 x.chans.l k).to.part) := hsc 2 _ rfl
                      have s3 : wa.cell? ⟨sb, so + k * 4 + 3, none⟩ = some (.int .i64 (atD Ch0 x.chans.l k).to.port) := hsc 3 _ rfl
                      clear hsc
                      generalize atD Ch0 x.chans.l k = z at s0 s1 s2 s3
                      have hq1 := run_eqE z.to.part z.to.port i2 j2
                      have hq2 := run_eqE z.fr.part z.fr.port i1 j1
                      generalize ((z.to.part == i2) && (z.to.port == j2)) = b1 at hq1
                      generalize ((z.fr.part == i1) && (z.fr.port == j1)) = b2 at hq2
                      go_upto_region 11 with fail
                      cases b1 with
                      | true =>
                        go_quiet (fail)
                        rename_i nq
                        go_wp2_with fail
                        go_ret
                        exact BoolP.mk false rfl (below_drewN hBa nq)
                      | false =>
                        go_quiet (fail)
                        rename_i nq
                        go_wp2_with fail
                        exact ⟨⟨k + 1, by omega, by go_num, below_drewN hbw nq⟩, by simp [intOf]; omega⟩
                    · obtain rfl : k = m := by omega
                      go_wp2_with fail
                      go_ret
                      exact BoolP.mk true rfl hBa
            | true =>
              cases qb with
              | false =>
                go_wp2_with fail
                go_ret
                exact BoolP.mk false rfl hBwf
              | true =>
                generalize hs : decide (sz < sa) = bs
                cases bs with
                | true =>
                  go_wp2_with fail
                  go_ret
                  exact BoolP.mk false rfl hBwf
                | false =>
                  go_wp2_with fail
                  go_loopw [8] (fun i wr => ∃ (k : Nat), k ≤ m ∧ i = .int .i64 (k : Int) ∧ Below wf.heap.size wf wr) (fun i _ => m - (intOf i).toNat)
                  case atStart => exact ⟨0, Nat.zero_le _, rfl, Below.refl _ _⟩
                  case round =>
                    clear e0 e2 u0 u1 u2 v0 v1 v2 lx ly la lb he hs
                    obtain ⟨k, hk, rfl, hbw⟩ := hrel
                    obtain ⟨wa, hwa⟩ : ∃ w : World, w = wr := ⟨_, rfl⟩
                    subst hwa
                    have hBa := hBwf.trans (hbw.mono hBwf.size)
                    have ka := kx.keep hbw
                    have kc := kb.keep hbw
                    have kd := kga.keep hbw
                    have lx := ka.lt
                    have ly := kc.lt
                    have la := kd.lt
                    by_cases hlt : k < m
                    · have e0 : wa.cell? ⟨gy, 0, none⟩ = some (.int .i64 i1) := kc.cell 0
                      have e1 : wa.cell? ⟨gy, 1, none⟩ = some (.int .i64 j1) := kc.cell 1
                      have e2 : wa.cell? ⟨gy, 2, none⟩ = some (.int .i64 i2) := kc.cell 2
                      have e3 : wa.cell? ⟨gy, 3, none⟩ = some (.int .i64 j2) := kc.cell 3
                      have u0 : wa.cell? ⟨ga, 0, none⟩ = some (.bool true) := kd.cell 0
                      have c1 : wa.cell? ⟨gx, 1, none⟩ = some (.slice (some ⟨sb, so, none⟩) x.chans.l.length x.chans.c) := by rw [← HA.out]; exact ka.cell 1
                      obtain ⟨sb2, so2, hA2, hsb, hsc⟩ := (rdChs.keep hx.2.1 hBa).1.at_ Ch0 (k := k) (by omega)
                      rw [HA.out] at hA2
                      cases hA2
                      have s0 : wa.cell? ⟨sb, so + k * 4, none⟩ = some (.int .i64 (atD Ch0 x.chans.l k).fr.part) := hsc 0 _ rfl
                      have s1 : wa.cell? ⟨sb, so + k * 4 + 1, none⟩ = some (.int .i64 (atD Ch0 x.chans.l k).fr.port) := hsc 1 _ rfl
                      have s2 : wa.cell? ⟨sb, so + k * 4 + 2, none⟩ = some (.int .i64 (atD Ch0 x.chans.l k).to.part) := hsc 2 _ rfl
                      have s3 : wa.cell? ⟨sb, so + k * 4 + 3, none⟩ = some (.int .i64 (atD Ch0 x.chans.l k).to.port) := hsc 3 _ rfl
                      clear hsc
                      generalize atD Ch0 x.chans.l k = z at s0 s1 s2 s3
                      have hq1 := run_eqE z.to.part z.to.port i2 j2
                      have hq2 := run_eqE z.fr.part z.fr.port i1 j1
                      generalize ((z.to.part == i2) && (z.to.port == j2)) = b1 at hq1
                      generalize ((z.fr.part == i1) && (z.fr.port == j1)) = b2 at hq2
                      go_upto_region 11 with fail
                      cases b1 with
                      | true =>
                        go_quiet (fail)
                        rename_i nq
                        go_wp2_with fail
                        go_ret
                        exact BoolP.mk false rfl (below_drewN hBa nq)
                      | false =>
                        go_quiet (fail)
                        rename_i nq
                        cases b2 with
                        | true =>
                          go_wp2_with fail
                          go_ret
                          exact BoolP.mk false rfl (below_drewN hBa nq)
                        | false =>
                          go_wp2_with fail
                          exact ⟨⟨k + 1, by omega, by go_num, below_drewN hbw nq⟩, by simp [intOf]; omega⟩
                    · obtain rfl : k = m := by omega
                      go_wp2_with fail
                      go_ret
                      exact BoolP.mk true rfl hBa
end Go.Proofs.Ytiglabknaldinaa
