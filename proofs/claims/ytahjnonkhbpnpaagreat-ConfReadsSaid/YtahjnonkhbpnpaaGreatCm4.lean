/- Words and walks for the claims of this seat, merged: CwPart, RfPart, CwEncode. -/
import Derived.Test.YtahjnonkhbpnpaaGreatCm2
import Derived.Test.YtahjnonkhbpnpaaGreatCm3
/- conf's writer: a partition, a mode, the platform. Printed by wip/gen_cwelem.py. -/
namespace Go.Proofs.YtahjnonkhbpnpaaGreat
open Go.RowKit
set_option maxRecDepth 100000 in
theorem numbersC_any {wa : World} {g : Nat} {T : Nat → Prop} {W : World} {l : List UInt8} {lg : Bool} {h : Hd Int} (hh : h.okI wa) (hn : h.l.length ≤ 100) (hw : WrC W wa.heap.size g T l lg) (hB : Below wa.heap.size wa W) (hl : l.length ≤ 59000000) :
    Calls Tryz.prog 23 #[.pointer (some ⟨g, 0, none⟩), .slice h.A h.l.length h.c] W (Wro W wa.heap.size g T (l ++ lst vint h.l) (lg || badL noB h.l)) := by
  have hgl := hw.lt
  go_enter Tryz.func23, Tryz.ntmps23
  go_wp2_with fail
  refine (list_In (N := 60000000) (M := 11) (enc := vint) (bad := noB) hh hn (fun y hy => one_In y (hh.2.2 y hy)) (fun y _ => vint_le y) (by omega) true_stq trivial hw hB (by omega)).mono ?_
  rintro e W2 ⟨rfl, h2⟩
  go_wp2_with fail
  go_end0
  exact ⟨rfl, h2⟩
set_option maxRecDepth 100000 in
set_option maxHeartbeats 3200000 in
theorem one_Pt {wa : World} {g : Nat} (x : Pt) (hx : x.ok wa) (hsh : x.short) : OneW wa g (fun _ _ => True) 16 #[.pointer (some ⟨g, 0, none⟩), .agg #[.slice x.regs.A x.regs.l.length x.regs.c, .slice x.procs.A x.procs.l.length x.procs.c, .slice x.ports.A x.ports.l.length x.ports.c, .slice x.sems.A x.sems.l.length x.sems.c, .int .i64 x.flags, .slice x.pools.A x.pools.l.length x.pools.c, .slice x.slates.A x.slates.l.length x.slates.c, .int .i64 x.cap, .int .i64 x.bud, .int .i64 x.lad, .slice x.acts.A x.acts.l.length x.acts.c]] 40000000 (encPt x) (badPt x) := by
  intro T W l lg _ hw hB hl
  have hbl := ((Below.refl W.heap.size W).alloc (Nat.le_refl _) (.cells #[.pointer (some ⟨g, 0, none⟩)] 59)).alloc (by simp) (.cells #[.slice x.regs.A x.regs.l.length x.regs.c, .slice x.procs.A x.procs.l.length x.procs.c, .slice x.ports.A x.ports.l.length x.ports.c, .slice x.sems.A x.sems.l.length x.sems.c, .int .i64 x.flags, .slice x.pools.A x.pools.l.length x.pools.c, .slice x.slates.A x.slates.l.length x.slates.c, .int .i64 x.cap, .int .i64 x.bud, .int .i64 x.lad, .slice x.acts.A x.acts.l.length x.acts.c] 55)
  have kp0 := (Blk.new W 59 #[.pointer (some ⟨g, 0, none⟩)]).alloc (.cells #[.slice x.regs.A x.regs.l.length x.regs.c, .slice x.procs.A x.procs.l.length x.procs.c, .slice x.ports.A x.ports.l.length x.ports.c, .slice x.sems.A x.sems.l.length x.sems.c, .int .i64 x.flags, .slice x.pools.A x.pools.l.length x.pools.c, .slice x.slates.A x.slates.l.length x.slates.c, .int .i64 x.cap, .int .i64 x.bud, .int .i64 x.lad, .slice x.acts.A x.acts.l.length x.acts.c] 55)
  have kx0 := Blk.new (W.alloc (.cells #[.pointer (some ⟨g, 0, none⟩)] 59)) 55 #[.slice x.regs.A x.regs.l.length x.regs.c, .slice x.procs.A x.procs.l.length x.procs.c, .slice x.ports.A x.ports.l.length x.ports.c, .slice x.sems.A x.sems.l.length x.sems.c, .int .i64 x.flags, .slice x.pools.A x.pools.l.length x.pools.c, .slice x.slates.A x.slates.l.length x.slates.c, .int .i64 x.cap, .int .i64 x.bud, .int .i64 x.lad, .slice x.acts.A x.acts.l.length x.acts.c]
  rw [World.size_alloc] at kx0
  have hw0 := hw.keep hbl
  have hB0 := hB.trans (hbl.mono hB.size)
  have np0 : ¬ T W.heap.size := fun h => by have := hw.bnd _ h; omega
  have nx0 : ¬ T (W.heap.size + 1) := fun h => by have := hw.bnd _ h; omega
  have F0 := Fr.of_below hbl T
  have G0 : Grw T T W ((W.alloc (.cells #[.pointer (some ⟨g, 0, none⟩)] 59)).alloc (.cells #[.slice x.regs.A x.regs.l.length x.regs.c, .slice x.procs.A x.procs.l.length x.procs.c, .slice x.ports.A x.ports.l.length x.ports.c, .slice x.sems.A x.sems.l.length x.sems.c, .int .i64 x.flags, .slice x.pools.A x.pools.l.length x.pools.c, .slice x.slates.A x.slates.l.length x.slates.c, .int .i64 x.cap, .int .i64 x.bud, .int .i64 x.lad, .slice x.acts.A x.acts.l.length x.acts.c] 55)) := fun b hb => ⟨.inl hb, Nat.lt_of_lt_of_le (hw.bnd b hb) hbl.size⟩
  obtain ⟨hs1, hs2, hs3, hs4, hs5, hs6, hs7⟩ := hsh
  have i4 : i64 x.flags := hx.2.2.2.2.1
  have i7 : i64 x.cap := hx.2.2.2.2.2.2.2.1
  have i8 : i64 x.bud := hx.2.2.2.2.2.2.2.2.1
  have i9 : i64 x.lad := hx.2.2.2.2.2.2.2.2.2.1
  go_enter Tryz.func16, Tryz.ntmps16
  go_upto_region 1 with fail
  generalize (W.alloc (.cells #[.pointer (some ⟨g, 0, none⟩)] 59)).alloc (.cells #[.slice x.regs.A x.regs.l.length x.regs.c, .slice x.procs.A x.procs.l.length x.procs.c, .slice x.ports.A x.ports.l.length x.ports.c, .slice x.sems.A x.sems.l.length x.sems.c, .int .i64 x.flags, .slice x.pools.A x.pools.l.length x.pools.c, .slice x.slates.A x.slates.l.length x.slates.c, .int .i64 x.cap, .int .i64 x.bud, .int .i64 x.lad, .slice x.acts.A x.acts.l.length x.acts.c] 55) = W0 at kx0 kp0 hw0 hB0 F0 G0 ⊢
  generalize hbx : W.heap.size + 1 = bx at kx0 nx0 ⊢
  generalize hpb : W.heap.size = pb at kp0 np0 hbl ⊢
  clear hbx hpb hbl hw hB
  have p0 : W0.cell? ⟨pb, 0, none⟩ = some (.pointer (some ⟨g, 0, none⟩)) := kp0.cell 0
  have lp0 := kp0.lt
  have lx0 := kx0.lt
  have lg0 := hw0.lt
  have c0 : W0.cell? ⟨bx, 0, none⟩ = some (.slice x.regs.A x.regs.l.length x.regs.c) := kx0.cell 0
  go_wp2_with fail
  refine (list_Rg (N := 60000000) (M := 23) (enc := encRg) (bad := noB) hx.1 hs1 (fun y hy => one_Rg y (hx.1.2 y hy)) (fun y hy => encRg_len y) (by omega) (cap_stq g pb) ⟨kp0, np0⟩ hw0 hB0 (by (try simp only [List.length_append]); omega)).mono ?_
  rintro e W1 ⟨rfl, T1, hw1, hf1, hg1⟩
  have il0 : (lst encRg x.regs.l).length ≤ 2311 := lst_len encRg _ (fun y hy => encRg_len y) hs1
  replace hw1 : WrC W1 wa.heap.size g T1 (l ++ lst encRg x.regs.l) (lg || badL noB x.regs.l) := hw1
  have kp1 := kp0.fr hf1 np0
  have kx1 := kx0.fr hf1 nx0
  have np1 := grw_no hg1 lp0 np0
  have nx1 := grw_no hg1 lx0 nx0
  have hB1 := hB0.trans (hf1.below (fun b hb h => by have := hw0.lo b h; omega) hB0.size)
  have F1 : Fr T W W1 := F0.grw G0 hf1
  have G1 : Grw T T1 W W1 := G0.trans F0.size hg1
  clear p0 lp0 lx0 lg0 hf1 hg1 kp0 kx0 np0 nx0 F0 G0 hw0 c0
  have p0 : W1.cell? ⟨pb, 0, none⟩ = some (.pointer (some ⟨g, 0, none⟩)) := kp1.cell 0
  have lp1 := kp1.lt
  have lx1 := kx1.lt
  have lg1 := hw1.lt
  have c1 : W1.cell? ⟨bx, 1, none⟩ = some (.slice x.procs.A x.procs.l.length x.procs.c) := kx1.cell 1
  go_wp2_with fail
  refine (list_Pc (N := 60000000) (M := 33) (enc := encPc) (bad := noB) hx.2.1 hs2 (fun y hy => one_Pc y (hx.2.1.2 y hy)) (fun y hy => encPc_len y) (by omega) (cap_stq g pb) ⟨kp1, np1⟩ hw1 hB1 (by (try simp only [List.length_append]); omega)).mono ?_
  rintro e W2 ⟨rfl, T2, hw2, hf2, hg2⟩
  have il1 : (lst encPc x.procs.l).length ≤ 3311 := lst_len encPc _ (fun y hy => encPc_len y) hs2
  replace hw2 : WrC W2 wa.heap.size g T2 ((l ++ lst encRg x.regs.l) ++ lst encPc x.procs.l) ((lg || badL noB x.regs.l) || badL noB x.procs.l) := hw2
  have kp2 := kp1.fr hf2 np1
  have kx2 := kx1.fr hf2 nx1
  have np2 := grw_no hg2 lp1 np1
  have nx2 := grw_no hg2 lx1 nx1
  have hB2 := hB1.trans (hf2.below (fun b hb h => by have := hw1.lo b h; omega) hB1.size)
  have F2 : Fr T W W2 := F1.grw G1 hf2
  have G2 : Grw T T2 W W2 := G1.trans F1.size hg2
  clear p0 lp1 lx1 lg1 hf2 hg2 kp1 kx1 np1 nx1 F1 G1 hw1 c1
  have p0 : W2.cell? ⟨pb, 0, none⟩ = some (.pointer (some ⟨g, 0, none⟩)) := kp2.cell 0
  have lp2 := kp2.lt
  have lx2 := kx2.lt
  have lg2 := hw2.lt
  have c2 : W2.cell? ⟨bx, 2, none⟩ = some (.slice x.ports.A x.ports.l.length x.ports.c) := kx2.cell 2
  go_wp2_with fail
  refine (list_Po (N := 60000000) (M := 24) (enc := encPo) (bad := noB) hx.2.2.1 hs3 (fun y hy => one_Po y (hx.2.2.1.2 y hy)) (fun y hy => encPo_len y) (by omega) (cap_stq g pb) ⟨kp2, np2⟩ hw2 hB2 (by (try simp only [List.length_append]); omega)).mono ?_
  rintro e W3 ⟨rfl, T3, hw3, hf3, hg3⟩
  have il2 : (lst encPo x.ports.l).length ≤ 2411 := lst_len encPo _ (fun y hy => encPo_len y) hs3
  replace hw3 : WrC W3 wa.heap.size g T3 (((l ++ lst encRg x.regs.l) ++ lst encPc x.procs.l) ++ lst encPo x.ports.l) (((lg || badL noB x.regs.l) || badL noB x.procs.l) || badL noB x.ports.l) := hw3
  have kp3 := kp2.fr hf3 np2
  have kx3 := kx2.fr hf3 nx2
  have np3 := grw_no hg3 lp2 np2
  have nx3 := grw_no hg3 lx2 nx2
  have hB3 := hB2.trans (hf3.below (fun b hb h => by have := hw2.lo b h; omega) hB2.size)
  have F3 : Fr T W W3 := F2.grw G2 hf3
  have G3 : Grw T T3 W W3 := G2.trans F2.size hg3
  clear p0 lp2 lx2 lg2 hf3 hg3 kp2 kx2 np2 nx2 F2 G2 hw2 c2
  have p0 : W3.cell? ⟨pb, 0, none⟩ = some (.pointer (some ⟨g, 0, none⟩)) := kp3.cell 0
  have lp3 := kp3.lt
  have lx3 := kx3.lt
  have lg3 := hw3.lt
  have c3 : W3.cell? ⟨bx, 3, none⟩ = some (.slice x.sems.A x.sems.l.length x.sems.c) := kx3.cell 3
  go_wp2_with fail
  refine (list_Sm (N := 60000000) (M := 22) (enc := encSm) (bad := noB) hx.2.2.2.1 hs4 (fun y hy => one_Sm y (hx.2.2.2.1.2 y hy)) (fun y hy => encSm_len y) (by omega) (cap_stq g pb) ⟨kp3, np3⟩ hw3 hB3 (by (try simp only [List.length_append]); omega)).mono ?_
  rintro e W4 ⟨rfl, T4, hw4, hf4, hg4⟩
  have il3 : (lst encSm x.sems.l).length ≤ 2211 := lst_len encSm _ (fun y hy => encSm_len y) hs4
  replace hw4 : WrC W4 wa.heap.size g T4 ((((l ++ lst encRg x.regs.l) ++ lst encPc x.procs.l) ++ lst encPo x.ports.l) ++ lst encSm x.sems.l) ((((lg || badL noB x.regs.l) || badL noB x.procs.l) || badL noB x.ports.l) || badL noB x.sems.l) := hw4
  have kp4 := kp3.fr hf4 np3
  have kx4 := kx3.fr hf4 nx3
  have np4 := grw_no hg4 lp3 np3
  have nx4 := grw_no hg4 lx3 nx3
  have hB4 := hB3.trans (hf4.below (fun b hb h => by have := hw3.lo b h; omega) hB3.size)
  have F4 : Fr T W W4 := F3.grw G3 hf4
  have G4 : Grw T T4 W W4 := G3.trans F3.size hg4
  clear p0 lp3 lx3 lg3 hf4 hg4 kp3 kx3 np3 nx3 F3 G3 hw3 c3
  have p0 : W4.cell? ⟨pb, 0, none⟩ = some (.pointer (some ⟨g, 0, none⟩)) := kp4.cell 0
  have lp4 := kp4.lt
  have lx4 := kx4.lt
  have lg4 := hw4.lt
  have c4 : W4.cell? ⟨bx, 4, none⟩ = some (.int .i64 x.flags) := kx4.cell 4
  go_wp2_with fail
  refine wp_region_fen (fun _ => False) [(5, 2)] (by kernel_rfl) (by kernel_rfl) ?_
  simp only [wpSegsF, List.take, List.drop]
  repeat (go_big_quiet_step (fail))
  refine wpQuiet_nil (wpHeadF_bar rfl (fun K' hK' => ?_))
  go_wp2_with fail
  refine (writeIntC_any (hw4.keep (Below.drew (Below.refl _ _))) hB4.size (by (try simp only [List.length_append]); omega) (show i64 x.flags by assumption)).mono ?_
  rintro e W5 ⟨rfl, T5, hw5, hf5, hg5⟩
  replace hf5 : Fr T4 W4 W5 := (Fr.of_below (Below.drew (Below.refl _ W4)) T4).trans hf5
  refine hK' _ _ (fun _ => False) rfl ?_
  clear hK' K'
  try simp only [wpSegsF]
  repeat (go_big_quiet_step (fail))
  refine wpQuiet_nil ?_
  have il4 : (vint x.flags).length ≤ 11 := vint_le _
  have kp5 := kp4.fr hf5 np4
  have kx5 := kx4.fr hf5 nx4
  have np5 := grw_no hg5 lp4 np4
  have nx5 := grw_no hg5 lx4 nx4
  have hB5 := hB4.trans (hf5.below (fun b hb h => by have := hw4.lo b h; omega) hB4.size)
  have F5 : Fr T W W5 := F4.grw G4 hf5
  have G5 : Grw T T5 W W5 := G4.trans F4.size hg5
  clear p0 lp4 lx4 lg4 hf5 hg5 kp4 kx4 np4 nx4 F4 G4 hw4 c4
  have p0 : W5.cell? ⟨pb, 0, none⟩ = some (.pointer (some ⟨g, 0, none⟩)) := kp5.cell 0
  have lp5 := kp5.lt
  have lx5 := kx5.lt
  have lg5 := hw5.lt
  have c5 : W5.cell? ⟨bx, 5, none⟩ = some (.slice x.pools.A x.pools.l.length x.pools.c) := kx5.cell 5
  go_wp2_with fail
  refine (list_Pl (N := 60000000) (M := 22) (enc := encPl) (bad := noB) hx.2.2.2.2.2.1 hs5 (fun y hy => one_Pl y (hx.2.2.2.2.2.1.2 y hy)) (fun y hy => encPl_len y) (by omega) (cap_stq g pb) ⟨kp5, np5⟩ hw5 hB5 (by (try simp only [List.length_append]); omega)).mono ?_
  rintro e W6 ⟨rfl, T6, hw6, hf6, hg6⟩
  have il5 : (lst encPl x.pools.l).length ≤ 2211 := lst_len encPl _ (fun y hy => encPl_len y) hs5
  replace hw6 : WrC W6 wa.heap.size g T6 ((((((l ++ lst encRg x.regs.l) ++ lst encPc x.procs.l) ++ lst encPo x.ports.l) ++ lst encSm x.sems.l) ++ vint x.flags) ++ lst encPl x.pools.l) (((((lg || badL noB x.regs.l) || badL noB x.procs.l) || badL noB x.ports.l) || badL noB x.sems.l) || badL noB x.pools.l) := hw6
  have kp6 := kp5.fr hf6 np5
  have kx6 := kx5.fr hf6 nx5
  have np6 := grw_no hg6 lp5 np5
  have nx6 := grw_no hg6 lx5 nx5
  have hB6 := hB5.trans (hf6.below (fun b hb h => by have := hw5.lo b h; omega) hB5.size)
  have F6 : Fr T W W6 := F5.grw G5 hf6
  have G6 : Grw T T6 W W6 := G5.trans F5.size hg6
  clear p0 lp5 lx5 lg5 hf6 hg6 kp5 kx5 np5 nx5 F5 G5 hw5 c5
  have p0 : W6.cell? ⟨pb, 0, none⟩ = some (.pointer (some ⟨g, 0, none⟩)) := kp6.cell 0
  have lp6 := kp6.lt
  have lx6 := kx6.lt
  have lg6 := hw6.lt
  have c6 : W6.cell? ⟨bx, 6, none⟩ = some (.slice x.slates.A x.slates.l.length x.slates.c) := kx6.cell 6
  go_wp2_with fail
  refine (numbersC_any hx.2.2.2.2.2.2.1 hs6 hw6 hB6 (by (try simp only [List.length_append]); omega)).mono ?_
  rintro e W7 ⟨rfl, T7, hw7, hf7, hg7⟩
  have il6 : (lst vint x.slates.l).length ≤ 1111 := lst_len vint _ (fun y _ => vint_le y) hs6
  have kp7 := kp6.fr hf7 np6
  have kx7 := kx6.fr hf7 nx6
  have np7 := grw_no hg7 lp6 np6
  have nx7 := grw_no hg7 lx6 nx6
  have hB7 := hB6.trans (hf7.below (fun b hb h => by have := hw6.lo b h; omega) hB6.size)
  have F7 : Fr T W W7 := F6.grw G6 hf7
  have G7 : Grw T T7 W W7 := G6.trans F6.size hg7
  clear p0 lp6 lx6 lg6 hf7 hg7 kp6 kx6 np6 nx6 F6 G6 hw6 c6
  have p0 : W7.cell? ⟨pb, 0, none⟩ = some (.pointer (some ⟨g, 0, none⟩)) := kp7.cell 0
  have lp7 := kp7.lt
  have lx7 := kx7.lt
  have lg7 := hw7.lt
  have c7 : W7.cell? ⟨bx, 7, none⟩ = some (.int .i64 x.cap) := kx7.cell 7
  have c8 : W7.cell? ⟨bx, 8, none⟩ = some (.int .i64 x.bud) := kx7.cell 8
  have c9 : W7.cell? ⟨bx, 9, none⟩ = some (.int .i64 x.lad) := kx7.cell 9
  have hbl7 := (Below.refl W7.heap.size W7).alloc (Nat.le_refl _) (.cells #[.int .i64 x.cap, .int .i64 x.bud, .int .i64 x.lad] 3)
  have hsl7 := SlI.of_blk (Blk.new W7 3 #[.int .i64 x.cap, .int .i64 x.bud, .int .i64 x.lad]) [x.cap, x.bud, x.lad] rfl (show 3 ≤ 1000000 by omega) (fun z hz => by
    simp only [List.mem_cons, List.mem_nil_iff, or_false] at hz
    rcases hz with rfl | rfl | rfl <;> assumption)
  go_wp2_with fail
  refine (intsC_any (hw7.keep hbl7) (Nat.le_trans hB7.size hbl7.size) (by (try simp only [List.length_append]); omega) hsl7 (show 3 ≤ 1000 by omega) (fun b o _ e h => by cases e; have := hw7.bnd _ h; omega)).mono ?_
  rintro e W8 ⟨rfl, T8, hw8, hf8, hg8⟩
  clear hsl7
  have il7 : (intsB [x.cap, x.bud, x.lad]).length ≤ 33 := intsB_len [x.cap, x.bud, x.lad]
  replace hf8 : Fr T7 W7 W8 := (Fr.of_below hbl7 T7).trans hf8
  replace hg8 : Grw T7 T8 W7 W8 := hg8.alloc_left hbl7.size
  have kp8 := kp7.fr hf8 np7
  have kx8 := kx7.fr hf8 nx7
  have np8 := grw_no hg8 lp7 np7
  have nx8 := grw_no hg8 lx7 nx7
  have hB8 := hB7.trans (hf8.below (fun b hb h => by have := hw7.lo b h; omega) hB7.size)
  have F8 : Fr T W W8 := F7.grw G7 hf8
  have G8 : Grw T T8 W W8 := G7.trans F7.size hg8
  clear p0 lp7 lx7 lg7 hf8 hg8 kp7 kx7 np7 nx7 F7 G7 hw7 c7 c8 c9
  have p0 : W8.cell? ⟨pb, 0, none⟩ = some (.pointer (some ⟨g, 0, none⟩)) := kp8.cell 0
  have lp8 := kp8.lt
  have lx8 := kx8.lt
  have lg8 := hw8.lt
  have c10 : W8.cell? ⟨bx, 10, none⟩ = some (.slice x.acts.A x.acts.l.length x.acts.c) := kx8.cell 10
  go_wp2_with fail
  refine (numbersC_any hx.2.2.2.2.2.2.2.2.2.2 hs7 hw8 hB8 (by (try simp only [List.length_append]); omega)).mono ?_
  rintro e W9 ⟨rfl, T9, hw9, hf9, hg9⟩
  have il8 : (lst vint x.acts.l).length ≤ 1111 := lst_len vint _ (fun y _ => vint_le y) hs7
  have kp9 := kp8.fr hf9 np8
  have kx9 := kx8.fr hf9 nx8
  have np9 := grw_no hg9 lp8 np8
  have nx9 := grw_no hg9 lx8 nx8
  have hB9 := hB8.trans (hf9.below (fun b hb h => by have := hw8.lo b h; omega) hB8.size)
  have F9 : Fr T W W9 := F8.grw G8 hf9
  have G9 : Grw T T9 W W9 := G8.trans F8.size hg9
  clear p0 lp8 lx8 lg8 hf9 hg9 kp8 kx8 np8 nx8 F8 G8 hw8 c10
  go_wp2_with fail
  go_end0
  refine ⟨rfl, T9, ?_, F9, G9⟩
  unfold encPt badPt
  try simp only [← List.append_assoc]
  try simp only [← Bool.or_assoc]
  exact hw9
set_option maxRecDepth 100000 in
set_option maxHeartbeats 3200000 in
theorem one_Md {wa : World} {g : Nat} (x : Md) (hx : x.ok wa) (hsh : x.wins.l.length ≤ 100) : OneW wa g (fun _ _ => True) 21 #[.pointer (some ⟨g, 0, none⟩), .agg #[.int .i64 x.frame, .slice x.wins.A x.wins.l.length x.wins.c]] 50000000 (encMd x) (badMd x) := by
  intro T W l lg _ hw hB hl
  have hbl := ((Below.refl W.heap.size W).alloc (Nat.le_refl _) (.cells #[.pointer (some ⟨g, 0, none⟩)] 59)).alloc (by simp) (.cells #[.int .i64 x.frame, .slice x.wins.A x.wins.l.length x.wins.c] 58)
  have kp0 := (Blk.new W 59 #[.pointer (some ⟨g, 0, none⟩)]).alloc (.cells #[.int .i64 x.frame, .slice x.wins.A x.wins.l.length x.wins.c] 58)
  have kx0 := Blk.new (W.alloc (.cells #[.pointer (some ⟨g, 0, none⟩)] 59)) 58 #[.int .i64 x.frame, .slice x.wins.A x.wins.l.length x.wins.c]
  rw [World.size_alloc] at kx0
  have hw0 := hw.keep hbl
  have hB0 := hB.trans (hbl.mono hB.size)
  have np0 : ¬ T W.heap.size := fun h => by have := hw.bnd _ h; omega
  have nx0 : ¬ T (W.heap.size + 1) := fun h => by have := hw.bnd _ h; omega
  have F0 := Fr.of_below hbl T
  have G0 : Grw T T W ((W.alloc (.cells #[.pointer (some ⟨g, 0, none⟩)] 59)).alloc (.cells #[.int .i64 x.frame, .slice x.wins.A x.wins.l.length x.wins.c] 58)) := fun b hb => ⟨.inl hb, Nat.lt_of_lt_of_le (hw.bnd b hb) hbl.size⟩
  have i0 : i64 x.frame := hx.1
  go_enter Tryz.func21, Tryz.ntmps21
  go_upto_region 1 with fail
  generalize (W.alloc (.cells #[.pointer (some ⟨g, 0, none⟩)] 59)).alloc (.cells #[.int .i64 x.frame, .slice x.wins.A x.wins.l.length x.wins.c] 58) = W0 at kx0 kp0 hw0 hB0 F0 G0 ⊢
  generalize hbx : W.heap.size + 1 = bx at kx0 nx0 ⊢
  generalize hpb : W.heap.size = pb at kp0 np0 hbl ⊢
  clear hbx hpb hbl hw hB
  have p0 : W0.cell? ⟨pb, 0, none⟩ = some (.pointer (some ⟨g, 0, none⟩)) := kp0.cell 0
  have lp0 := kp0.lt
  have lx0 := kx0.lt
  have lg0 := hw0.lt
  have c0 : W0.cell? ⟨bx, 0, none⟩ = some (.int .i64 x.frame) := kx0.cell 0
  go_wp2_with fail
  refine wp_region_fen (fun _ => False) [(5, 2)] (by kernel_rfl) (by kernel_rfl) ?_
  simp only [wpSegsF, List.take, List.drop]
  repeat (go_big_quiet_step (fail))
  refine wpQuiet_nil (wpHeadF_bar rfl (fun K' hK' => ?_))
  go_wp2_with fail
  refine (writeIntC_any (hw0.keep (Below.drew (Below.refl _ _))) hB0.size (by (try simp only [List.length_append]); omega) (show i64 x.frame by assumption)).mono ?_
  rintro e W1 ⟨rfl, T1, hw1, hf1, hg1⟩
  replace hf1 : Fr T W0 W1 := (Fr.of_below (Below.drew (Below.refl _ W0)) T).trans hf1
  refine hK' _ _ (fun _ => False) rfl ?_
  clear hK' K'
  try simp only [wpSegsF]
  repeat (go_big_quiet_step (fail))
  refine wpQuiet_nil ?_
  have il0 : (vint x.frame).length ≤ 11 := vint_le _
  have kp1 := kp0.fr hf1 np0
  have kx1 := kx0.fr hf1 nx0
  have np1 := grw_no hg1 lp0 np0
  have nx1 := grw_no hg1 lx0 nx0
  have hB1 := hB0.trans (hf1.below (fun b hb h => by have := hw0.lo b h; omega) hB0.size)
  have F1 : Fr T W W1 := F0.grw G0 hf1
  have G1 : Grw T T1 W W1 := G0.trans F0.size hg1
  clear p0 lp0 lx0 lg0 hf1 hg1 kp0 kx0 np0 nx0 F0 G0 hw0 c0
  have p0 : W1.cell? ⟨pb, 0, none⟩ = some (.pointer (some ⟨g, 0, none⟩)) := kp1.cell 0
  have lp1 := kp1.lt
  have lx1 := kx1.lt
  have lg1 := hw1.lt
  have c1 : W1.cell? ⟨bx, 1, none⟩ = some (.slice x.wins.A x.wins.l.length x.wins.c) := kx1.cell 1
  go_wp2_with fail
  refine (list_Wn (N := 60000000) (M := 33) (enc := encWn) (bad := noB) hx.2 hsh (fun y hy => one_Wn y (hx.2.2 y hy)) (fun y hy => encWn_len y) (by omega) (cap_stq g pb) ⟨kp1, np1⟩ hw1 hB1 (by (try simp only [List.length_append]); omega)).mono ?_
  rintro e W2 ⟨rfl, T2, hw2, hf2, hg2⟩
  have il1 : (lst encWn x.wins.l).length ≤ 3311 := lst_len encWn _ (fun y hy => encWn_len y) hsh
  replace hw2 : WrC W2 wa.heap.size g T2 ((l ++ vint x.frame) ++ lst encWn x.wins.l) (lg || badL noB x.wins.l) := hw2
  have kp2 := kp1.fr hf2 np1
  have kx2 := kx1.fr hf2 nx1
  have np2 := grw_no hg2 lp1 np1
  have nx2 := grw_no hg2 lx1 nx1
  have hB2 := hB1.trans (hf2.below (fun b hb h => by have := hw1.lo b h; omega) hB1.size)
  have F2 : Fr T W W2 := F1.grw G1 hf2
  have G2 : Grw T T2 W W2 := G1.trans F1.size hg2
  clear p0 lp1 lx1 lg1 hf2 hg2 kp1 kx1 np1 nx1 F1 G1 hw1 c1
  go_wp2_with fail
  go_end0
  refine ⟨rfl, T2, ?_, F2, G2⟩
  unfold encMd badMd
  try simp only [← List.append_assoc]
  try simp only [← Bool.or_assoc]
  exact hw2
set_option maxRecDepth 100000 in
set_option maxHeartbeats 3200000 in
theorem one_Pw {wa : World} {g : Nat} (x : Pw) (hx : x.ok wa) (hs1 : x.levels.l.length ≤ 100) (hs2 : x.naps.l.length ≤ 100) : OneW wa g (fun _ _ => True) 22 #[.pointer (some ⟨g, 0, none⟩), .agg #[.slice x.levels.A x.levels.l.length x.levels.c, .slice x.naps.A x.naps.l.length x.naps.c, .int .i64 x.sw, .int .i64 x.idle, .int .i64 x.change, .int .i64 x.quant, .int .i64 x.slow, .int .i64 x.ppm]] 50000000 (encPw x) (badPw x) := by
  intro T W l lg _ hw hB hl
  have hbl := ((Below.refl W.heap.size W).alloc (Nat.le_refl _) (.cells #[.pointer (some ⟨g, 0, none⟩)] 59)).alloc (by simp) (.cells #[.slice x.levels.A x.levels.l.length x.levels.c, .slice x.naps.A x.naps.l.length x.naps.c, .int .i64 x.sw, .int .i64 x.idle, .int .i64 x.change, .int .i64 x.quant, .int .i64 x.slow, .int .i64 x.ppm] 28)
  have kp0 := (Blk.new W 59 #[.pointer (some ⟨g, 0, none⟩)]).alloc (.cells #[.slice x.levels.A x.levels.l.length x.levels.c, .slice x.naps.A x.naps.l.length x.naps.c, .int .i64 x.sw, .int .i64 x.idle, .int .i64 x.change, .int .i64 x.quant, .int .i64 x.slow, .int .i64 x.ppm] 28)
  have kx0 := Blk.new (W.alloc (.cells #[.pointer (some ⟨g, 0, none⟩)] 59)) 28 #[.slice x.levels.A x.levels.l.length x.levels.c, .slice x.naps.A x.naps.l.length x.naps.c, .int .i64 x.sw, .int .i64 x.idle, .int .i64 x.change, .int .i64 x.quant, .int .i64 x.slow, .int .i64 x.ppm]
  rw [World.size_alloc] at kx0
  have hw0 := hw.keep hbl
  have hB0 := hB.trans (hbl.mono hB.size)
  have np0 : ¬ T W.heap.size := fun h => by have := hw.bnd _ h; omega
  have nx0 : ¬ T (W.heap.size + 1) := fun h => by have := hw.bnd _ h; omega
  have F0 := Fr.of_below hbl T
  have G0 : Grw T T W ((W.alloc (.cells #[.pointer (some ⟨g, 0, none⟩)] 59)).alloc (.cells #[.slice x.levels.A x.levels.l.length x.levels.c, .slice x.naps.A x.naps.l.length x.naps.c, .int .i64 x.sw, .int .i64 x.idle, .int .i64 x.change, .int .i64 x.quant, .int .i64 x.slow, .int .i64 x.ppm] 28)) := fun b hb => ⟨.inl hb, Nat.lt_of_lt_of_le (hw.bnd b hb) hbl.size⟩
  have i2 : i64 x.sw := hx.2.2.1
  have i3 : i64 x.idle := hx.2.2.2.1
  have i4 : i64 x.change := hx.2.2.2.2.1
  have i5 : i64 x.quant := hx.2.2.2.2.2.1
  have i6 : i64 x.slow := hx.2.2.2.2.2.2.1
  have i7 : i64 x.ppm := hx.2.2.2.2.2.2.2
  go_enter Tryz.func22, Tryz.ntmps22
  go_upto_region 1 with fail
  generalize (W.alloc (.cells #[.pointer (some ⟨g, 0, none⟩)] 59)).alloc (.cells #[.slice x.levels.A x.levels.l.length x.levels.c, .slice x.naps.A x.naps.l.length x.naps.c, .int .i64 x.sw, .int .i64 x.idle, .int .i64 x.change, .int .i64 x.quant, .int .i64 x.slow, .int .i64 x.ppm] 28) = W0 at kx0 kp0 hw0 hB0 F0 G0 ⊢
  generalize hbx : W.heap.size + 1 = bx at kx0 nx0 ⊢
  generalize hpb : W.heap.size = pb at kp0 np0 hbl ⊢
  clear hbx hpb hbl hw hB
  have p0 : W0.cell? ⟨pb, 0, none⟩ = some (.pointer (some ⟨g, 0, none⟩)) := kp0.cell 0
  have lp0 := kp0.lt
  have lx0 := kx0.lt
  have lg0 := hw0.lt
  have c0 : W0.cell? ⟨bx, 0, none⟩ = some (.slice x.levels.A x.levels.l.length x.levels.c) := kx0.cell 0
  go_wp2_with fail
  refine (list_Lv (N := 60000000) (M := 22) (enc := encLv) (bad := noB) hx.1 hs1 (fun y hy => one_Lv y (hx.1.2 y hy)) (fun y hy => encLv_len y) (by omega) (cap_stq g pb) ⟨kp0, np0⟩ hw0 hB0 (by (try simp only [List.length_append]); omega)).mono ?_
  rintro e W1 ⟨rfl, T1, hw1, hf1, hg1⟩
  have il0 : (lst encLv x.levels.l).length ≤ 2211 := lst_len encLv _ (fun y hy => encLv_len y) hs1
  replace hw1 : WrC W1 wa.heap.size g T1 (l ++ lst encLv x.levels.l) (lg || badL noB x.levels.l) := hw1
  have kp1 := kp0.fr hf1 np0
  have kx1 := kx0.fr hf1 nx0
  have np1 := grw_no hg1 lp0 np0
  have nx1 := grw_no hg1 lx0 nx0
  have hB1 := hB0.trans (hf1.below (fun b hb h => by have := hw0.lo b h; omega) hB0.size)
  have F1 : Fr T W W1 := F0.grw G0 hf1
  have G1 : Grw T T1 W W1 := G0.trans F0.size hg1
  clear p0 lp0 lx0 lg0 hf1 hg1 kp0 kx0 np0 nx0 F0 G0 hw0 c0
  have p0 : W1.cell? ⟨pb, 0, none⟩ = some (.pointer (some ⟨g, 0, none⟩)) := kp1.cell 0
  have lp1 := kp1.lt
  have lx1 := kx1.lt
  have lg1 := hw1.lt
  have c1 : W1.cell? ⟨bx, 1, none⟩ = some (.slice x.naps.A x.naps.l.length x.naps.c) := kx1.cell 1
  go_wp2_with fail
  refine (list_Np (N := 60000000) (M := 33) (enc := encNp) (bad := noB) hx.2.1 hs2 (fun y hy => one_Np y (hx.2.1.2 y hy)) (fun y hy => encNp_len y) (by omega) (cap_stq g pb) ⟨kp1, np1⟩ hw1 hB1 (by (try simp only [List.length_append]); omega)).mono ?_
  rintro e W2 ⟨rfl, T2, hw2, hf2, hg2⟩
  have il1 : (lst encNp x.naps.l).length ≤ 3311 := lst_len encNp _ (fun y hy => encNp_len y) hs2
  replace hw2 : WrC W2 wa.heap.size g T2 ((l ++ lst encLv x.levels.l) ++ lst encNp x.naps.l) ((lg || badL noB x.levels.l) || badL noB x.naps.l) := hw2
  have kp2 := kp1.fr hf2 np1
  have kx2 := kx1.fr hf2 nx1
  have np2 := grw_no hg2 lp1 np1
  have nx2 := grw_no hg2 lx1 nx1
  have hB2 := hB1.trans (hf2.below (fun b hb h => by have := hw1.lo b h; omega) hB1.size)
  have F2 : Fr T W W2 := F1.grw G1 hf2
  have G2 : Grw T T2 W W2 := G1.trans F1.size hg2
  clear p0 lp1 lx1 lg1 hf2 hg2 kp1 kx1 np1 nx1 F1 G1 hw1 c1
  have p0 : W2.cell? ⟨pb, 0, none⟩ = some (.pointer (some ⟨g, 0, none⟩)) := kp2.cell 0
  have lp2 := kp2.lt
  have lx2 := kx2.lt
  have lg2 := hw2.lt
  have c2 : W2.cell? ⟨bx, 2, none⟩ = some (.int .i64 x.sw) := kx2.cell 2
  have c3 : W2.cell? ⟨bx, 3, none⟩ = some (.int .i64 x.idle) := kx2.cell 3
  have c4 : W2.cell? ⟨bx, 4, none⟩ = some (.int .i64 x.change) := kx2.cell 4
  have c5 : W2.cell? ⟨bx, 5, none⟩ = some (.int .i64 x.quant) := kx2.cell 5
  have c6 : W2.cell? ⟨bx, 6, none⟩ = some (.int .i64 x.slow) := kx2.cell 6
  have c7 : W2.cell? ⟨bx, 7, none⟩ = some (.int .i64 x.ppm) := kx2.cell 7
  have hbl2 := (Below.refl W2.heap.size W2).alloc (Nat.le_refl _) (.cells #[.int .i64 x.sw, .int .i64 x.idle, .int .i64 x.change, .int .i64 x.quant, .int .i64 x.slow, .int .i64 x.ppm] 3)
  have hsl2 := SlI.of_blk (Blk.new W2 3 #[.int .i64 x.sw, .int .i64 x.idle, .int .i64 x.change, .int .i64 x.quant, .int .i64 x.slow, .int .i64 x.ppm]) [x.sw, x.idle, x.change, x.quant, x.slow, x.ppm] rfl (show 6 ≤ 1000000 by omega) (fun z hz => by
    simp only [List.mem_cons, List.mem_nil_iff, or_false] at hz
    rcases hz with rfl | rfl | rfl | rfl | rfl | rfl <;> assumption)
  go_wp2_with fail
  refine (intsC_any (hw2.keep hbl2) (Nat.le_trans hB2.size hbl2.size) (by (try simp only [List.length_append]); omega) hsl2 (show 6 ≤ 1000 by omega) (fun b o _ e h => by cases e; have := hw2.bnd _ h; omega)).mono ?_
  rintro e W3 ⟨rfl, T3, hw3, hf3, hg3⟩
  clear hsl2
  have il2 : (intsB [x.sw, x.idle, x.change, x.quant, x.slow, x.ppm]).length ≤ 66 := intsB_len [x.sw, x.idle, x.change, x.quant, x.slow, x.ppm]
  replace hf3 : Fr T2 W2 W3 := (Fr.of_below hbl2 T2).trans hf3
  replace hg3 : Grw T2 T3 W2 W3 := hg3.alloc_left hbl2.size
  have kp3 := kp2.fr hf3 np2
  have kx3 := kx2.fr hf3 nx2
  have np3 := grw_no hg3 lp2 np2
  have nx3 := grw_no hg3 lx2 nx2
  have hB3 := hB2.trans (hf3.below (fun b hb h => by have := hw2.lo b h; omega) hB2.size)
  have F3 : Fr T W W3 := F2.grw G2 hf3
  have G3 : Grw T T3 W W3 := G2.trans F2.size hg3
  clear p0 lp2 lx2 lg2 hf3 hg3 kp2 kx2 np2 nx2 F2 G2 hw2 c2 c3 c4 c5 c6 c7
  go_wp2_with fail
  go_end0
  refine ⟨rfl, T3, ?_, F3, G3⟩
  unfold encPw badPw
  try simp only [← List.append_assoc]
  try simp only [← Bool.or_assoc]
  exact hw3
end Go.Proofs.YtahjnonkhbpnpaaGreat
/- The document's bytes of a partition. Printed by wip/gen_rf.py. -/
namespace Go.Proofs.YtahjnonkhbpnpaaGreat
open Go.RowKit
theorem badL_noB {α : Type} (l : List α) : badL noB l = !decide (l.length ≤ 64) := by
  have h : l.any noB = false := by rw [List.any_eq_false]; intro a _; exact Bool.false_ne_true
  unfold badL
  rw [h, Bool.or_false, ← decide_not]
  exact decide_eq_decide.mpr (by omega)
set_option maxRecDepth 100000 in
set_option maxHeartbeats 6400000 in
theorem refPart_any {wa : World} (x : Pt) (hx : x.ok wa) (hsh : x.short) :
    Calls Tryz.prog 26 #[.agg #[.slice x.regs.A x.regs.l.length x.regs.c, .slice x.procs.A x.procs.l.length x.procs.c, .slice x.ports.A x.ports.l.length x.ports.c, .slice x.sems.A x.sems.l.length x.sems.c, .int .i64 x.flags, .slice x.pools.A x.pools.l.length x.pools.c, .slice x.slates.A x.slates.l.length x.slates.c, .int .i64 x.cap, .int .i64 x.bud, .int .i64 x.lad, .slice x.acts.A x.acts.l.length x.acts.c]] wa fun e w' => ∃ v, e = .returned (.tuple #[v, .bool (!badPt x)]) ∧ w'.ownsRow wa.heap.size 5 1 v (encPt x).length ((encPt x).map bv) ∧ Below wa.heap.size wa w' := by
  obtain ⟨hs1, hs2, hs3, hs4, hs5, hs6, hs7⟩ := hsh
  have i4 : i64 x.flags := hx.2.2.2.2.1
  have i7 : i64 x.cap := hx.2.2.2.2.2.2.2.1
  have i8 : i64 x.bud := hx.2.2.2.2.2.2.2.2.1
  have i9 : i64 x.lad := hx.2.2.2.2.2.2.2.2.2.1
  have hb := (Below.refl wa.heap.size wa).alloc (Nat.le_refl _) (.cells #[.slice x.regs.A x.regs.l.length x.regs.c, .slice x.procs.A x.procs.l.length x.procs.c, .slice x.ports.A x.ports.l.length x.ports.c, .slice x.sems.A x.sems.l.length x.sems.c, .int .i64 x.flags, .slice x.pools.A x.pools.l.length x.pools.c, .slice x.slates.A x.slates.l.length x.slates.c, .int .i64 x.cap, .int .i64 x.bud, .int .i64 x.lad, .slice x.acts.A x.acts.l.length x.acts.c] 55)
  have b1 := Blk.new wa 55 #[.slice x.regs.A x.regs.l.length x.regs.c, .slice x.procs.A x.procs.l.length x.procs.c, .slice x.ports.A x.ports.l.length x.ports.c, .slice x.sems.A x.sems.l.length x.sems.c, .int .i64 x.flags, .slice x.pools.A x.pools.l.length x.pools.c, .slice x.slates.A x.slates.l.length x.slates.c, .int .i64 x.cap, .int .i64 x.bud, .int .i64 x.lad, .slice x.acts.A x.acts.l.length x.acts.c]
  go_enter Tryz.func26, Tryz.ntmps26
  go_upto_region 1 with fail
  generalize hw1 : wa.alloc (.cells #[.slice x.regs.A x.regs.l.length x.regs.c, .slice x.procs.A x.procs.l.length x.procs.c, .slice x.ports.A x.ports.l.length x.ports.c, .slice x.sems.A x.sems.l.length x.sems.c, .int .i64 x.flags, .slice x.pools.A x.pools.l.length x.pools.c, .slice x.slates.A x.slates.l.length x.slates.c, .int .i64 x.cap, .int .i64 x.bud, .int .i64 x.lad, .slice x.acts.A x.acts.l.length x.acts.c] 55) = w1 at hb b1 ⊢
  have hz1 : wa.heap.size < w1.heap.size := b1.lt
  clear hw1
  have hbw1 := Below.refl w1.heap.size w1
  have HB : Hid (badPt x = !(decide (x.regs.l.length ≤ 64) && decide (x.procs.l.length ≤ 64) && decide (x.ports.l.length ≤ 64) && decide (x.sems.l.length ≤ 64) && decide (x.pools.l.length ≤ 64) && decide (x.slates.l.length ≤ 64) && decide (x.acts.l.length ≤ 64))) := by
    unfold Hid badPt
    simp only [badL_noB, ← Bool.not_and]
  have c0 : w1.cell? ⟨wa.heap.size, 0, none⟩ = some (.slice x.regs.A x.regs.l.length x.regs.c) := (Blk.keep b1 hbw1).cell 0
  have c1 : w1.cell? ⟨wa.heap.size, 1, none⟩ = some (.slice x.procs.A x.procs.l.length x.procs.c) := (Blk.keep b1 hbw1).cell 1
  have c2 : w1.cell? ⟨wa.heap.size, 2, none⟩ = some (.slice x.ports.A x.ports.l.length x.ports.c) := (Blk.keep b1 hbw1).cell 2
  have c3 : w1.cell? ⟨wa.heap.size, 3, none⟩ = some (.slice x.sems.A x.sems.l.length x.sems.c) := (Blk.keep b1 hbw1).cell 3
  have c5 : w1.cell? ⟨wa.heap.size, 5, none⟩ = some (.slice x.pools.A x.pools.l.length x.pools.c) := (Blk.keep b1 hbw1).cell 5
  have c6 : w1.cell? ⟨wa.heap.size, 6, none⟩ = some (.slice x.slates.A x.slates.l.length x.slates.c) := (Blk.keep b1 hbw1).cell 6
  have c10 : w1.cell? ⟨wa.heap.size, 10, none⟩ = some (.slice x.acts.A x.acts.l.length x.acts.c) := (Blk.keep b1 hbw1).cell 10
  have hlbw1 : wa.heap.size < w1.heap.size := (Blk.keep b1 hbw1).lt
  go_cut [4] from 11 to 50 (fun c wx => c = .bool (!badPt x) ∧ wx = w1)
  case first =>
    by_cases q0 : x.regs.l.length ≤ 64
    rotate_left
    · have _d := True.intro
      go_wp2_with fail
      go_meet
      exact ⟨by rw [HB.out]; simp [q0], rfl⟩
    by_cases q1 : x.procs.l.length ≤ 64
    rotate_left
    · have _d := True.intro
      go_wp2_with fail
      go_meet
      exact ⟨by rw [HB.out]; simp [q0, q1], rfl⟩
    by_cases q2 : x.ports.l.length ≤ 64
    rotate_left
    · have _d := True.intro
      go_wp2_with fail
      go_meet
      exact ⟨by rw [HB.out]; simp [q0, q1, q2], rfl⟩
    by_cases q3 : x.sems.l.length ≤ 64
    rotate_left
    · have _d := True.intro
      go_wp2_with fail
      go_meet
      exact ⟨by rw [HB.out]; simp [q0, q1, q2, q3], rfl⟩
    by_cases q4 : x.pools.l.length ≤ 64
    rotate_left
    · have _d := True.intro
      go_wp2_with fail
      go_meet
      exact ⟨by rw [HB.out]; simp [q0, q1, q2, q3, q4], rfl⟩
    by_cases q5 : x.slates.l.length ≤ 64
    rotate_left
    · have _d := True.intro
      go_wp2_with fail
      go_meet
      exact ⟨by rw [HB.out]; simp [q0, q1, q2, q3, q4, q5], rfl⟩
    go_wp2_with fail
    go_meet
    exact ⟨by rw [HB.out]; simp [q0, q1, q2, q3, q4, q5]; omega, rfl⟩
  case rest =>
    obtain ⟨rfl, hwc⟩ := hcut
    have hwd := hwc.symm
    subst hwd
    clear c0 c1 c2 c3 c5 c6 c10
    clear hlbw1 HB
    generalize hmay : (!badPt x) = may
    have HM := Lib.hid hmay
    clear hmay
    have c0 : w1.cell? ⟨wa.heap.size, 0, none⟩ = some (.slice x.regs.A x.regs.l.length x.regs.c) := (Blk.keep b1 hbw1).cell 0
    have hlbw1 : wa.heap.size < w1.heap.size := (Blk.keep b1 hbw1).lt
    go_wp2_with fail
    refine (refInt_any (w := w1) (n := (x.regs.l.length : Int)) (by unfold i64; omega)).mono ?_
    rintro e w2 ⟨vw2, rfl, hown, hbn⟩
    have hil := vint_le (x.regs.l.length : Int)
    clear c0
    clear hlbw1
    have hbw2 := hbw1.trans (hbn.mono hbw1.size)
    obtain ⟨L3, hL3⟩ : ∃ L, L = vint (x.regs.l.length : Int) := ⟨_, rfl⟩
    have how2 := own_mono hown hbw1.size
    rw [← hL3] at how2
    have nL3 : L3.length ≤ 11 := by rw [hL3]; omega
    have HL3 := Lib.hid hL3
    clear hL3
    clear hown hbn hil
    have c0 : w2.cell? ⟨wa.heap.size, 0, none⟩ = some (.slice x.regs.A x.regs.l.length x.regs.c) := (Blk.keep b1 hbw2).cell 0
    have hlbw2 : wa.heap.size < w2.heap.size := (Blk.keep b1 hbw2).lt
    go_wp2_with fail
    clear c0
    go_loopw [5, 6] (fun v i wr => ∃ (k4 : Nat) (M : List UInt8), k4 ≤ x.regs.l.length ∧ i = .int .i64 (k4 : Int) ∧ Hid (M = L3 ++ (x.regs.l.take k4).flatMap encRg) ∧ M.length ≤ 11 + k4 * 23 ∧ wr.ownsRow w1.heap.size 5 1 v M.length (M.map bv) ∧ Below w1.heap.size w1 wr) (fun _ i _ => x.regs.l.length - (intOf i).toNat)
    case atStart => exact ⟨0, L3, Nat.zero_le _, rfl, (by unfold Hid; simp), by omega, how2, hbw2⟩
    case round =>
      clear how2 hlbw2
      obtain ⟨k4, L6, hk, rfl, HL6, nL6, hoR, hbR⟩ := hrel
      clear hbw2
      obtain ⟨w7, hWr⟩ : ∃ w : World, w = wr := ⟨_, rfl⟩
      subst hWr
      have how7 := hoR
      have hbw7 := hbR
      clear hoR hbR
      by_cases hlt : k4 < x.regs.l.length
      · have _d := True.intro
        have hkM : k4 * 23 ≤ 100 * 23 := Nat.mul_le_mul_right 23 (by omega)
        have hK := Lib.hid (show (x.regs.l.take (k4 + 1)).flatMap encRg = (x.regs.l.take k4).flatMap encRg ++ encRg (atD Rg0 x.regs.l k4) by rw [take_snocG Rg0 _ _ hlt, List.flatMap_append]; simp)
        have hy := (rdRgs.keep hx.1 hb).2 _ (atD_mem (d := Rg0) hlt)
        obtain ⟨eb, eo, hA, heb, hec⟩ := (rdRgs.keep hx.1 hb).1.at_ Rg0 hlt
        have HA := Lib.hid hA
        clear hA
        have X0 : w1.cell? ⟨eb, eo + k4 * 3, none⟩ = some (.int .i64 (atD Rg0 x.regs.l k4).base) := hec 0 _ rfl
        have X1 : w1.cell? ⟨eb, eo + k4 * 3 + 1, none⟩ = some (.int .i64 (atD Rg0 x.regs.l k4).size) := hec 1 _ rfl
        have X2 : w1.cell? ⟨eb, eo + k4 * 3 + 2, none⟩ = some (.bool (atD Rg0 x.regs.l k4).wr) := hec 2 _ rfl
        clear hec
        generalize atD Rg0 x.regs.l k4 = y at hy hK X0 X1 X2
        have i_y_base : i64 y.base := hy.1
        have i_y_size : i64 y.size := hy.2.1
        have c0 : w7.cell? ⟨wa.heap.size, 0, none⟩ = some (.slice (some ⟨eb, eo, none⟩) x.regs.l.length x.regs.c) := by rw [← HA.out]; exact (Blk.keep b1 hbw7).cell 0
        have hlbw7 : wa.heap.size < w7.heap.size := (Blk.keep b1 hbw7).lt
        have hle := Nat.lt_of_lt_of_le heb hbw7.size
        have x0 := (hbw7.cell (p := ⟨eb, _, none⟩) heb).trans X0
        have x1 := (hbw7.cell (p := ⟨eb, _, none⟩) heb).trans X1
        have hbp := (Below.refl w7.heap.size w7).alloc (Nat.le_refl _) (.cells #[.int .i64 y.base, .int .i64 y.size] 3)
        have hsl := SlI.of_blk ((Blk.new w7 3 #[.int .i64 y.base, .int .i64 y.size]).drew) [y.base, y.size] rfl (show 2 ≤ 1000000 by omega) (fun z hz => by
          simp only [List.mem_cons, List.mem_nil_iff, or_false] at hz
          rcases hz with rfl | rfl <;> first | assumption | (unfold i64; omega))
        replace hbp := hbp.drew
        go_wp2_with fail
        refine wp_region_fen (fun _ => False) [(13, 0), (0, 0), (0, 2)] (by kernel_rfl) (by kernel_rfl) ?_
        simp only [wpSegsF, List.take, List.drop]
        repeat (go_big_quiet_step (fail))
        refine wpQuiet_nil (wpHeadF_want rfl (fun K' hK' => ?_))
        go_wp2_with fail
        refine hK' _ _ rfl (fr_graft (Fr.of_below hbp _)) ?_
        clear hK' K'
        generalize (w7.alloc (.cells #[.int .i64 y.base, .int .i64 y.size] 3)).drew = w8 at hbp hsl ⊢
        try simp only [wpSegsF, List.take, List.drop]
        repeat (go_big_quiet_step (fail))
        refine wpQuiet_nil (wpHeadF_want rfl (fun K' hK' => ?_))
        go_wp2_with fail
        refine (refRow_any hsl (show 2 ≤ 1000 by omega)).mono ?_
        rintro e w9 ⟨vv, rfl, hown, hbn⟩
        obtain ⟨vA, vc, rfl, hvs, -⟩ := SlB.of_own hown
        have hbq := hbp.trans (hbn.mono hbp.size)
        refine hK' _ _ rfl (fr_graft (Fr.of_below hbq _)) ?_
        clear hK' K'
        try simp only [wpSegsF, List.take, List.drop]
        repeat (go_big_quiet_step (fail))
        refine wpQuiet_nil (wpHeadF_bar rfl (fun K' hK' => ?_))
        have hil := vint_len y.base
        have hin : (intsB [y.base, y.size]).length ≤ 22 := intsB_len [y.base, y.size]
        have hbz := hbw7.trans (hbq.mono hbw7.size)
        have hoz := own_below how7 hbq
        have hzz := hbz.size
        refine wp_appM w9 _ _ (by rfl) w1.heap.size _ _ (by rfl) hoz vA _ vc _ hvs (by rw [show intsB [y.base, y.size] = vint y.base ++ intsB [y.size] from rfl, List.length_append]; omega) (by rfl) (by omega) hzz ?_
        intro gw10 cw10 w10 L11 HL11 hnn hoy hfy hvg
        refine hK' _ _ (fun _ => False) rfl ?_
        clear hK' K'
        simp only [Act.put, List.setIfInBounds_toArray, List.set_cons_succ, List.set_cons_zero]
        try simp only [wpSegsF]
        repeat (go_big_quiet_step (fail))
        refine wpQuiet_nil ?_
        clear c0 hle x0 x1
        have hbw10 := app_below hbz hoz hfy
        have how10 := hoy
        have nL11 : L11.length ≤ 11 + k4 * 23 + 22 := by omega
        clear hnn hoy hfy hvg
        clear how7 hbw7 nL6 hlbw7
        clear hbz hoz hzz hvs hbn hown hbp hbq hsl hil hin
        have c0 : w10.cell? ⟨wa.heap.size, 0, none⟩ = some (.slice (some ⟨eb, eo, none⟩) x.regs.l.length x.regs.c) := by rw [← HA.out]; exact (Blk.keep b1 hbw10).cell 0
        have hlbw10 : wa.heap.size < w10.heap.size := (Blk.keep b1 hbw10).lt
        have hle := Nat.lt_of_lt_of_le heb hbw10.size
        have x2 := (hbw10.cell (p := ⟨eb, _, none⟩) heb).trans X2
        go_wp2_with fail
        refine (refBool_any y.wr).mono ?_
        rintro e w12 ⟨vA, vc, rfl, hvs, hbn⟩
        have hin : (vbool y.wr).length ≤ 1 := Nat.le_refl _
        have hbz := hbw10.trans (hbn.mono hbw10.size)
        have hoz := own_below how10 hbn
        have hzz := hbz.size
        go_wp2_with (at_builtin; refine wpList_appM w12 (by rfl) _ _ (by rfl) w1.heap.size _ _ (by rfl) hoz vA _ vc _ hvs (by decide) (by rfl) (by omega) hzz ?_; intro gw13 cw13 w13 L14 HL14 hnn hoy hfy hvg)
        clear c0 hle x2
        have hbw13 := app_below hbz hoz hfy
        have how13 := hoy
        have nL14 : L14.length ≤ 11 + k4 * 23 + 23 := by omega
        clear hnn hoy hfy hvg
        clear how10 hbw10 nL11 hlbw10
        clear hbz hoz hzz hvs hbn
        clear hin
        exact ⟨⟨k4 + 1, L14, by omega, by go_num, (by unfold Hid; rw [hK.out, ← List.append_assoc, ← HL6.out]; rw [HL14.out]; rw [HL11.out]; (try unfold encRg); (try simp only [List.append_assoc])), by omega, how13, hbw13⟩, by simp [intOf]; omega⟩
      · obtain rfl : k4 = x.regs.l.length := by omega
        have H2L6 := HL6
        rw [List.take_length] at H2L6
        clear HL6
        have hkM : x.regs.l.length * 23 ≤ 100 * 23 := Nat.mul_le_mul_right 23 (by omega)
        replace nL6 : L6.length ≤ 2311 := by omega
        clear hkM
        have c0 : w7.cell? ⟨wa.heap.size, 0, none⟩ = some (.slice x.regs.A x.regs.l.length x.regs.c) := (Blk.keep b1 hbw7).cell 0
        have c1 : w7.cell? ⟨wa.heap.size, 1, none⟩ = some (.slice x.procs.A x.procs.l.length x.procs.c) := (Blk.keep b1 hbw7).cell 1
        have hlbw7 : wa.heap.size < w7.heap.size := (Blk.keep b1 hbw7).lt
        go_wp2_with fail
        refine (refInt_any (n := (x.procs.l.length : Int)) (by unfold i64; omega)).mono ?_
        rintro e w15 ⟨vv, rfl, hown, hbn⟩
        obtain ⟨vA, vc, rfl, hvs, -⟩ := SlB.of_own hown
        have hil := vint_len (x.procs.l.length : Int)
        have hbz := hbw7.trans (hbn.mono hbw7.size)
        have hoz := own_below how7 hbn
        have hzz := hbz.size
        go_wp2_with (at_builtin; refine wpList_appM w15 (by rfl) _ _ (by rfl) w1.heap.size _ _ (by rfl) hoz vA _ vc _ hvs hil.1 (by rfl) (by omega) hzz ?_; intro gw16 cw16 w16 L17 HL17 hnn hoy hfy hvg)
        clear c0 c1
        have hbw16 := app_below hbz hoz hfy
        have how16 := hoy
        have nL17 : L17.length ≤ 2322 := by omega
        clear hnn hoy hfy hvg
        clear how7 hbw7 nL6 hlbw7
        clear hbz hoz hzz hvs hbn hown
        clear hil
        have c1 : w16.cell? ⟨wa.heap.size, 1, none⟩ = some (.slice x.procs.A x.procs.l.length x.procs.c) := (Blk.keep b1 hbw16).cell 1
        have hlbw16 : wa.heap.size < w16.heap.size := (Blk.keep b1 hbw16).lt
        go_wp2_with fail
        clear c1
        go_loopw [5, 7] (fun v i wr => ∃ (k18 : Nat) (M : List UInt8), k18 ≤ x.procs.l.length ∧ i = .int .i64 (k18 : Int) ∧ Hid (M = L17 ++ (x.procs.l.take k18).flatMap encPc) ∧ M.length ≤ 2322 + k18 * 33 ∧ wr.ownsRow w1.heap.size 5 1 v M.length (M.map bv) ∧ Below w1.heap.size w1 wr) (fun _ i _ => x.procs.l.length - (intOf i).toNat)
        case atStart => exact ⟨0, L17, Nat.zero_le _, rfl, (by unfold Hid; simp), by omega, how16, hbw16⟩
        case round =>
          clear how16 hlbw16
          obtain ⟨k18, L20, hk, rfl, HL20, nL20, hoR, hbR⟩ := hrel
          clear hbw16
          obtain ⟨w21, hWr⟩ : ∃ w : World, w = wr := ⟨_, rfl⟩
          subst hWr
          have how21 := hoR
          have hbw21 := hbR
          clear hoR hbR
          by_cases hlt : k18 < x.procs.l.length
          · have _d := True.intro
            have hkM : k18 * 33 ≤ 100 * 33 := Nat.mul_le_mul_right 33 (by omega)
            have hK := Lib.hid (show (x.procs.l.take (k18 + 1)).flatMap encPc = (x.procs.l.take k18).flatMap encPc ++ encPc (atD Pc0 x.procs.l k18) by rw [take_snocG Pc0 _ _ hlt, List.flatMap_append]; simp)
            have hy := (rdPcs.keep hx.2.1 hb).2 _ (atD_mem (d := Pc0) hlt)
            obtain ⟨eb, eo, hA, heb, hec⟩ := (rdPcs.keep hx.2.1 hb).1.at_ Pc0 hlt
            have HA := Lib.hid hA
            clear hA
            have X0 : w1.cell? ⟨eb, eo + k18 * 3, none⟩ = some (.int .i64 (atD Pc0 x.procs.l k18).prio) := hec 0 _ rfl
            have X1 : w1.cell? ⟨eb, eo + k18 * 3 + 1, none⟩ = some (.int .i64 (atD Pc0 x.procs.l k18).per) := hec 1 _ rfl
            have X2 : w1.cell? ⟨eb, eo + k18 * 3 + 2, none⟩ = some (.int .i64 (atD Pc0 x.procs.l k18).cost) := hec 2 _ rfl
            clear hec
            generalize atD Pc0 x.procs.l k18 = y at hy hK X0 X1 X2
            have i_y_prio : i64 y.prio := hy.1
            have i_y_per : i64 y.per := hy.2.1
            have i_y_cost : i64 y.cost := hy.2.2
            have c1 : w21.cell? ⟨wa.heap.size, 1, none⟩ = some (.slice (some ⟨eb, eo, none⟩) x.procs.l.length x.procs.c) := by rw [← HA.out]; exact (Blk.keep b1 hbw21).cell 1
            have hlbw21 : wa.heap.size < w21.heap.size := (Blk.keep b1 hbw21).lt
            have hle := Nat.lt_of_lt_of_le heb hbw21.size
            have x0 := (hbw21.cell (p := ⟨eb, _, none⟩) heb).trans X0
            have x1 := (hbw21.cell (p := ⟨eb, _, none⟩) heb).trans X1
            have x2 := (hbw21.cell (p := ⟨eb, _, none⟩) heb).trans X2
            have hbp := (Below.refl w21.heap.size w21).alloc (Nat.le_refl _) (.cells #[.int .i64 y.prio, .int .i64 y.per, .int .i64 y.cost] 3)
            have hsl := SlI.of_blk ((Blk.new w21 3 #[.int .i64 y.prio, .int .i64 y.per, .int .i64 y.cost]).drew) [y.prio, y.per, y.cost] rfl (show 3 ≤ 1000000 by omega) (fun z hz => by
              simp only [List.mem_cons, List.mem_nil_iff, or_false] at hz
              rcases hz with rfl | rfl | rfl <;> first | assumption | (unfold i64; omega))
            replace hbp := hbp.drew
            go_wp2_with fail
            refine wp_region_fen (fun _ => False) [(19, 0), (0, 0), (0, 2)] (by kernel_rfl) (by kernel_rfl) ?_
            simp only [wpSegsF, List.take, List.drop]
            repeat (go_big_quiet_step (fail))
            refine wpQuiet_nil (wpHeadF_want rfl (fun K' hK' => ?_))
            go_wp2_with fail
            refine hK' _ _ rfl (fr_graft (Fr.of_below hbp _)) ?_
            clear hK' K'
            generalize (w21.alloc (.cells #[.int .i64 y.prio, .int .i64 y.per, .int .i64 y.cost] 3)).drew = w22 at hbp hsl ⊢
            try simp only [wpSegsF, List.take, List.drop]
            repeat (go_big_quiet_step (fail))
            refine wpQuiet_nil (wpHeadF_want rfl (fun K' hK' => ?_))
            go_wp2_with fail
            refine (refRow_any hsl (show 3 ≤ 1000 by omega)).mono ?_
            rintro e w23 ⟨vv, rfl, hown, hbn⟩
            obtain ⟨vA, vc, rfl, hvs, -⟩ := SlB.of_own hown
            have hbq := hbp.trans (hbn.mono hbp.size)
            refine hK' _ _ rfl (fr_graft (Fr.of_below hbq _)) ?_
            clear hK' K'
            try simp only [wpSegsF, List.take, List.drop]
            repeat (go_big_quiet_step (fail))
            refine wpQuiet_nil (wpHeadF_bar rfl (fun K' hK' => ?_))
            have hil := vint_len y.prio
            have hin : (intsB [y.prio, y.per, y.cost]).length ≤ 33 := intsB_len [y.prio, y.per, y.cost]
            have hbz := hbw21.trans (hbq.mono hbw21.size)
            have hoz := own_below how21 hbq
            have hzz := hbz.size
            refine wp_appM w23 _ _ (by rfl) w1.heap.size _ _ (by rfl) hoz vA _ vc _ hvs (by rw [show intsB [y.prio, y.per, y.cost] = vint y.prio ++ intsB [y.per, y.cost] from rfl, List.length_append]; omega) (by rfl) (by omega) hzz ?_
            intro gw24 cw24 w24 L25 HL25 hnn hoy hfy hvg
            refine hK' _ _ (fun _ => False) rfl ?_
            clear hK' K'
            simp only [Act.put, List.setIfInBounds_toArray, List.set_cons_succ, List.set_cons_zero]
            try simp only [wpSegsF]
            repeat (go_big_quiet_step (fail))
            refine wpQuiet_nil ?_
            clear c1 hle x0 x1 x2
            have hbw24 := app_below hbz hoz hfy
            have how24 := hoy
            have nL25 : L25.length ≤ 2322 + k18 * 33 + 33 := by omega
            clear hnn hoy hfy hvg
            clear how21 hbw21 nL20 hlbw21
            clear hbz hoz hzz hvs hbn hown hbp hbq hsl hil hin
            go_wp2_with fail
            exact ⟨⟨k18 + 1, L25, by omega, by go_num, (by unfold Hid; rw [hK.out, ← List.append_assoc, ← HL20.out]; rw [HL25.out]; (try unfold encPc); (try simp only)), by omega, how24, hbw24⟩, by simp [intOf]; omega⟩
          · obtain rfl : k18 = x.procs.l.length := by omega
            have H2L20 := HL20
            rw [List.take_length] at H2L20
            clear HL20
            have hkM : x.procs.l.length * 33 ≤ 100 * 33 := Nat.mul_le_mul_right 33 (by omega)
            replace nL20 : L20.length ≤ 5622 := by omega
            clear hkM
            have c1 : w21.cell? ⟨wa.heap.size, 1, none⟩ = some (.slice x.procs.A x.procs.l.length x.procs.c) := (Blk.keep b1 hbw21).cell 1
            have c2 : w21.cell? ⟨wa.heap.size, 2, none⟩ = some (.slice x.ports.A x.ports.l.length x.ports.c) := (Blk.keep b1 hbw21).cell 2
            have hlbw21 : wa.heap.size < w21.heap.size := (Blk.keep b1 hbw21).lt
            go_wp2_with fail
            refine (refInt_any (n := (x.ports.l.length : Int)) (by unfold i64; omega)).mono ?_
            rintro e w26 ⟨vv, rfl, hown, hbn⟩
            obtain ⟨vA, vc, rfl, hvs, -⟩ := SlB.of_own hown
            have hil := vint_len (x.ports.l.length : Int)
            have hbz := hbw21.trans (hbn.mono hbw21.size)
            have hoz := own_below how21 hbn
            have hzz := hbz.size
            go_wp2_with (at_builtin; refine wpList_appM w26 (by rfl) _ _ (by rfl) w1.heap.size _ _ (by rfl) hoz vA _ vc _ hvs hil.1 (by rfl) (by omega) hzz ?_; intro gw27 cw27 w27 L28 HL28 hnn hoy hfy hvg)
            clear c1 c2
            have hbw27 := app_below hbz hoz hfy
            have how27 := hoy
            have nL28 : L28.length ≤ 5633 := by omega
            clear hnn hoy hfy hvg
            clear how21 hbw21 nL20 hlbw21
            clear hbz hoz hzz hvs hbn hown
            clear hil
            have c2 : w27.cell? ⟨wa.heap.size, 2, none⟩ = some (.slice x.ports.A x.ports.l.length x.ports.c) := (Blk.keep b1 hbw27).cell 2
            have hlbw27 : wa.heap.size < w27.heap.size := (Blk.keep b1 hbw27).lt
            go_wp2_with fail
            clear c2
            go_loopw [5, 8] (fun v i wr => ∃ (k29 : Nat) (M : List UInt8), k29 ≤ x.ports.l.length ∧ i = .int .i64 (k29 : Int) ∧ Hid (M = L28 ++ (x.ports.l.take k29).flatMap encPo) ∧ M.length ≤ 5633 + k29 * 24 ∧ wr.ownsRow w1.heap.size 5 1 v M.length (M.map bv) ∧ Below w1.heap.size w1 wr) (fun _ i _ => x.ports.l.length - (intOf i).toNat)
            case atStart => exact ⟨0, L28, Nat.zero_le _, rfl, (by unfold Hid; simp), by omega, how27, hbw27⟩
            case round =>
              clear how27 hlbw27
              obtain ⟨k29, L31, hk, rfl, HL31, nL31, hoR, hbR⟩ := hrel
              clear hbw27
              obtain ⟨w32, hWr⟩ : ∃ w : World, w = wr := ⟨_, rfl⟩
              subst hWr
              have how32 := hoR
              have hbw32 := hbR
              clear hoR hbR
              by_cases hlt : k29 < x.ports.l.length
              · have _d := True.intro
                have hkM : k29 * 24 ≤ 100 * 24 := Nat.mul_le_mul_right 24 (by omega)
                have hK := Lib.hid (show (x.ports.l.take (k29 + 1)).flatMap encPo = (x.ports.l.take k29).flatMap encPo ++ encPo (atD Po0 x.ports.l k29) by rw [take_snocG Po0 _ _ hlt, List.flatMap_append]; simp)
                have hy := (rdPos.keep hx.2.2.1 hb).2 _ (atD_mem (d := Po0) hlt)
                obtain ⟨eb, eo, hA, heb, hec⟩ := (rdPos.keep hx.2.2.1 hb).1.at_ Po0 hlt
                have HA := Lib.hid hA
                clear hA
                have X0 : w1.cell? ⟨eb, eo + k29 * 4, none⟩ = some (.bool (atD Po0 x.ports.l k29).q) := hec 0 _ rfl
                have X1 : w1.cell? ⟨eb, eo + k29 * 4 + 1, none⟩ = some (.bool (atD Po0 x.ports.l k29).inn) := hec 1 _ rfl
                have X2 : w1.cell? ⟨eb, eo + k29 * 4 + 2, none⟩ = some (.int .i64 (atD Po0 x.ports.l k29).size) := hec 2 _ rfl
                have X3 : w1.cell? ⟨eb, eo + k29 * 4 + 3, none⟩ = some (.int .i64 (atD Po0 x.ports.l k29).depth) := hec 3 _ rfl
                clear hec
                generalize atD Po0 x.ports.l k29 = y at hy hK X0 X1 X2 X3
                have i_y_size : i64 y.size := hy.2.2.1
                have i_y_depth : i64 y.depth := hy.2.2.2
                have c2 : w32.cell? ⟨wa.heap.size, 2, none⟩ = some (.slice (some ⟨eb, eo, none⟩) x.ports.l.length x.ports.c) := by rw [← HA.out]; exact (Blk.keep b1 hbw32).cell 2
                have hlbw32 : wa.heap.size < w32.heap.size := (Blk.keep b1 hbw32).lt
                have hle := Nat.lt_of_lt_of_le heb hbw32.size
                have x0 := (hbw32.cell (p := ⟨eb, _, none⟩) heb).trans X0
                go_wp2_with fail
                refine (refBool_any y.q).mono ?_
                rintro e w33 ⟨vA, vc, rfl, hvs, hbn⟩
                have hin : (vbool y.q).length ≤ 1 := Nat.le_refl _
                have hbz := hbw32.trans (hbn.mono hbw32.size)
                have hoz := own_below how32 hbn
                have hzz := hbz.size
                go_upto_region 18 with (at_builtin; refine wpList_appM w33 (by rfl) _ _ (by rfl) w1.heap.size _ _ (by rfl) hoz vA _ vc _ hvs (by decide) (by rfl) (by omega) hzz ?_; intro gw34 cw34 w34 L35 HL35 hnn hoy hfy hvg)
                clear c2 hle x0
                have hbw34 := app_below hbz hoz hfy
                have how34 := hoy
                have nL35 : L35.length ≤ 5633 + k29 * 24 + 1 := by omega
                clear hnn hoy hfy hvg
                clear how32 hbw32 nL31 hlbw32
                clear hbz hoz hzz hvs hbn
                clear hin
                have c2 : w34.cell? ⟨wa.heap.size, 2, none⟩ = some (.slice (some ⟨eb, eo, none⟩) x.ports.l.length x.ports.c) := by rw [← HA.out]; exact (Blk.keep b1 hbw34).cell 2
                have hlbw34 : wa.heap.size < w34.heap.size := (Blk.keep b1 hbw34).lt
                have hle := Nat.lt_of_lt_of_le heb hbw34.size
                have x1 := (hbw34.cell (p := ⟨eb, _, none⟩) heb).trans X1
                go_wp2_with fail
                refine (refBool_any y.inn).mono ?_
                rintro e w36 ⟨vA, vc, rfl, hvs, hbn⟩
                have hin : (vbool y.inn).length ≤ 1 := Nat.le_refl _
                have hbz := hbw34.trans (hbn.mono hbw34.size)
                have hoz := own_below how34 hbn
                have hzz := hbz.size
                go_wp2_with (at_builtin; refine wpList_appM w36 (by rfl) _ _ (by rfl) w1.heap.size _ _ (by rfl) hoz vA _ vc _ hvs (by decide) (by rfl) (by omega) hzz ?_; intro gw37 cw37 w37 L38 HL38 hnn hoy hfy hvg)
                clear c2 hle x1
                have hbw37 := app_below hbz hoz hfy
                have how37 := hoy
                have nL38 : L38.length ≤ 5633 + k29 * 24 + 2 := by omega
                clear hnn hoy hfy hvg
                clear how34 hbw34 nL35 hlbw34
                clear hbz hoz hzz hvs hbn
                clear hin
                have c2 : w37.cell? ⟨wa.heap.size, 2, none⟩ = some (.slice (some ⟨eb, eo, none⟩) x.ports.l.length x.ports.c) := by rw [← HA.out]; exact (Blk.keep b1 hbw37).cell 2
                have hlbw37 : wa.heap.size < w37.heap.size := (Blk.keep b1 hbw37).lt
                have hle := Nat.lt_of_lt_of_le heb hbw37.size
                have x2 := (hbw37.cell (p := ⟨eb, _, none⟩) heb).trans X2
                have x3 := (hbw37.cell (p := ⟨eb, _, none⟩) heb).trans X3
                have hbp := (Below.refl w37.heap.size w37).alloc (Nat.le_refl _) (.cells #[.int .i64 y.size, .int .i64 y.depth] 3)
                have hsl := SlI.of_blk ((Blk.new w37 3 #[.int .i64 y.size, .int .i64 y.depth]).drew) [y.size, y.depth] rfl (show 2 ≤ 1000000 by omega) (fun z hz => by
                  simp only [List.mem_cons, List.mem_nil_iff, or_false] at hz
                  rcases hz with rfl | rfl <;> first | assumption | (unfold i64; omega))
                replace hbp := hbp.drew
                go_wp2_with fail
                refine wp_region_fen (fun _ => False) [(13, 0), (0, 0), (0, 2)] (by kernel_rfl) (by kernel_rfl) ?_
                simp only [wpSegsF, List.take, List.drop]
                repeat (go_big_quiet_step (fail))
                refine wpQuiet_nil (wpHeadF_want rfl (fun K' hK' => ?_))
                go_wp2_with fail
                refine hK' _ _ rfl (fr_graft (Fr.of_below hbp _)) ?_
                clear hK' K'
                generalize (w37.alloc (.cells #[.int .i64 y.size, .int .i64 y.depth] 3)).drew = w39 at hbp hsl ⊢
                try simp only [wpSegsF, List.take, List.drop]
                repeat (go_big_quiet_step (fail))
                refine wpQuiet_nil (wpHeadF_want rfl (fun K' hK' => ?_))
                go_wp2_with fail
                refine (refRow_any hsl (show 2 ≤ 1000 by omega)).mono ?_
                rintro e w40 ⟨vv, rfl, hown, hbn⟩
                obtain ⟨vA, vc, rfl, hvs, -⟩ := SlB.of_own hown
                have hbq := hbp.trans (hbn.mono hbp.size)
                refine hK' _ _ rfl (fr_graft (Fr.of_below hbq _)) ?_
                clear hK' K'
                try simp only [wpSegsF, List.take, List.drop]
                repeat (go_big_quiet_step (fail))
                refine wpQuiet_nil (wpHeadF_bar rfl (fun K' hK' => ?_))
                have hil := vint_len y.size
                have hin : (intsB [y.size, y.depth]).length ≤ 22 := intsB_len [y.size, y.depth]
                have hbz := hbw37.trans (hbq.mono hbw37.size)
                have hoz := own_below how37 hbq
                have hzz := hbz.size
                refine wp_appM w40 _ _ (by rfl) w1.heap.size _ _ (by rfl) hoz vA _ vc _ hvs (by rw [show intsB [y.size, y.depth] = vint y.size ++ intsB [y.depth] from rfl, List.length_append]; omega) (by rfl) (by omega) hzz ?_
                intro gw41 cw41 w41 L42 HL42 hnn hoy hfy hvg
                refine hK' _ _ (fun _ => False) rfl ?_
                clear hK' K'
                simp only [Act.put, List.setIfInBounds_toArray, List.set_cons_succ, List.set_cons_zero]
                try simp only [wpSegsF]
                repeat (go_big_quiet_step (fail))
                refine wpQuiet_nil ?_
                clear c2 hle x2 x3
                have hbw41 := app_below hbz hoz hfy
                have how41 := hoy
                have nL42 : L42.length ≤ 5633 + k29 * 24 + 24 := by omega
                clear hnn hoy hfy hvg
                clear how37 hbw37 nL38 hlbw37
                clear hbz hoz hzz hvs hbn hown hbp hbq hsl hil hin
                go_wp2_with fail
                exact ⟨⟨k29 + 1, L42, by omega, by go_num, (by unfold Hid; rw [hK.out, ← List.append_assoc, ← HL31.out]; rw [HL42.out]; rw [HL38.out]; rw [HL35.out]; (try unfold encPo); (try simp only [List.append_assoc])), by omega, how41, hbw41⟩, by simp [intOf]; omega⟩
              · obtain rfl : k29 = x.ports.l.length := by omega
                have H2L31 := HL31
                rw [List.take_length] at H2L31
                clear HL31
                have hkM : x.ports.l.length * 24 ≤ 100 * 24 := Nat.mul_le_mul_right 24 (by omega)
                replace nL31 : L31.length ≤ 8033 := by omega
                clear hkM
                have c2 : w32.cell? ⟨wa.heap.size, 2, none⟩ = some (.slice x.ports.A x.ports.l.length x.ports.c) := (Blk.keep b1 hbw32).cell 2
                have c3 : w32.cell? ⟨wa.heap.size, 3, none⟩ = some (.slice x.sems.A x.sems.l.length x.sems.c) := (Blk.keep b1 hbw32).cell 3
                have hlbw32 : wa.heap.size < w32.heap.size := (Blk.keep b1 hbw32).lt
                go_wp2_with fail
                refine (refInt_any (n := (x.sems.l.length : Int)) (by unfold i64; omega)).mono ?_
                rintro e w43 ⟨vv, rfl, hown, hbn⟩
                obtain ⟨vA, vc, rfl, hvs, -⟩ := SlB.of_own hown
                have hil := vint_len (x.sems.l.length : Int)
                have hbz := hbw32.trans (hbn.mono hbw32.size)
                have hoz := own_below how32 hbn
                have hzz := hbz.size
                go_wp2_with (at_builtin; refine wpList_appM w43 (by rfl) _ _ (by rfl) w1.heap.size _ _ (by rfl) hoz vA _ vc _ hvs hil.1 (by rfl) (by omega) hzz ?_; intro gw44 cw44 w44 L45 HL45 hnn hoy hfy hvg)
                clear c2 c3
                have hbw44 := app_below hbz hoz hfy
                have how44 := hoy
                have nL45 : L45.length ≤ 8044 := by omega
                clear hnn hoy hfy hvg
                clear how32 hbw32 nL31 hlbw32
                clear hbz hoz hzz hvs hbn hown
                clear hil
                have c3 : w44.cell? ⟨wa.heap.size, 3, none⟩ = some (.slice x.sems.A x.sems.l.length x.sems.c) := (Blk.keep b1 hbw44).cell 3
                have hlbw44 : wa.heap.size < w44.heap.size := (Blk.keep b1 hbw44).lt
                go_wp2_with fail
                clear c3
                go_loopw [5, 9] (fun v i wr => ∃ (k46 : Nat) (M : List UInt8), k46 ≤ x.sems.l.length ∧ i = .int .i64 (k46 : Int) ∧ Hid (M = L45 ++ (x.sems.l.take k46).flatMap encSm) ∧ M.length ≤ 8044 + k46 * 22 ∧ wr.ownsRow w1.heap.size 5 1 v M.length (M.map bv) ∧ Below w1.heap.size w1 wr) (fun _ i _ => x.sems.l.length - (intOf i).toNat)
                case atStart => exact ⟨0, L45, Nat.zero_le _, rfl, (by unfold Hid; simp), by omega, how44, hbw44⟩
                case round =>
                  clear how44 hlbw44
                  obtain ⟨k46, L48, hk, rfl, HL48, nL48, hoR, hbR⟩ := hrel
                  clear hbw44
                  obtain ⟨w49, hWr⟩ : ∃ w : World, w = wr := ⟨_, rfl⟩
                  subst hWr
                  have how49 := hoR
                  have hbw49 := hbR
                  clear hoR hbR
                  by_cases hlt : k46 < x.sems.l.length
                  · have _d := True.intro
                    have hkM : k46 * 22 ≤ 100 * 22 := Nat.mul_le_mul_right 22 (by omega)
                    have hK := Lib.hid (show (x.sems.l.take (k46 + 1)).flatMap encSm = (x.sems.l.take k46).flatMap encSm ++ encSm (atD Sm0 x.sems.l k46) by rw [take_snocG Sm0 _ _ hlt, List.flatMap_append]; simp)
                    have hy := (rdSms.keep hx.2.2.2.1 hb).2 _ (atD_mem (d := Sm0) hlt)
                    obtain ⟨eb, eo, hA, heb, hec⟩ := (rdSms.keep hx.2.2.2.1 hb).1.at_ Sm0 hlt
                    have HA := Lib.hid hA
                    clear hA
                    have X0 : w1.cell? ⟨eb, eo + k46 * 2, none⟩ = some (.int .i64 (atD Sm0 x.sems.l k46).first) := hec 0 _ rfl
                    have X1 : w1.cell? ⟨eb, eo + k46 * 2 + 1, none⟩ = some (.int .i64 (atD Sm0 x.sems.l k46).most) := hec 1 _ rfl
                    clear hec
                    generalize atD Sm0 x.sems.l k46 = y at hy hK X0 X1
                    have i_y_first : i64 y.first := hy.1
                    have i_y_most : i64 y.most := hy.2
                    have c3 : w49.cell? ⟨wa.heap.size, 3, none⟩ = some (.slice (some ⟨eb, eo, none⟩) x.sems.l.length x.sems.c) := by rw [← HA.out]; exact (Blk.keep b1 hbw49).cell 3
                    have hlbw49 : wa.heap.size < w49.heap.size := (Blk.keep b1 hbw49).lt
                    have hle := Nat.lt_of_lt_of_le heb hbw49.size
                    have x0 := (hbw49.cell (p := ⟨eb, _, none⟩) heb).trans X0
                    have x1 := (hbw49.cell (p := ⟨eb, _, none⟩) heb).trans X1
                    have hbp := (Below.refl w49.heap.size w49).alloc (Nat.le_refl _) (.cells #[.int .i64 y.first, .int .i64 y.most] 3)
                    have hsl := SlI.of_blk ((Blk.new w49 3 #[.int .i64 y.first, .int .i64 y.most]).drew) [y.first, y.most] rfl (show 2 ≤ 1000000 by omega) (fun z hz => by
                      simp only [List.mem_cons, List.mem_nil_iff, or_false] at hz
                      rcases hz with rfl | rfl <;> first | assumption | (unfold i64; omega))
                    replace hbp := hbp.drew
                    go_wp2_with fail
                    refine wp_region_fen (fun _ => False) [(13, 0), (0, 0), (0, 2)] (by kernel_rfl) (by kernel_rfl) ?_
                    simp only [wpSegsF, List.take, List.drop]
                    repeat (go_big_quiet_step (fail))
                    refine wpQuiet_nil (wpHeadF_want rfl (fun K' hK' => ?_))
                    go_wp2_with fail
                    refine hK' _ _ rfl (fr_graft (Fr.of_below hbp _)) ?_
                    clear hK' K'
                    generalize (w49.alloc (.cells #[.int .i64 y.first, .int .i64 y.most] 3)).drew = w50 at hbp hsl ⊢
                    try simp only [wpSegsF, List.take, List.drop]
                    repeat (go_big_quiet_step (fail))
                    refine wpQuiet_nil (wpHeadF_want rfl (fun K' hK' => ?_))
                    go_wp2_with fail
                    refine (refRow_any hsl (show 2 ≤ 1000 by omega)).mono ?_
                    rintro e w51 ⟨vv, rfl, hown, hbn⟩
                    obtain ⟨vA, vc, rfl, hvs, -⟩ := SlB.of_own hown
                    have hbq := hbp.trans (hbn.mono hbp.size)
                    refine hK' _ _ rfl (fr_graft (Fr.of_below hbq _)) ?_
                    clear hK' K'
                    try simp only [wpSegsF, List.take, List.drop]
                    repeat (go_big_quiet_step (fail))
                    refine wpQuiet_nil (wpHeadF_bar rfl (fun K' hK' => ?_))
                    have hil := vint_len y.first
                    have hin : (intsB [y.first, y.most]).length ≤ 22 := intsB_len [y.first, y.most]
                    have hbz := hbw49.trans (hbq.mono hbw49.size)
                    have hoz := own_below how49 hbq
                    have hzz := hbz.size
                    refine wp_appM w51 _ _ (by rfl) w1.heap.size _ _ (by rfl) hoz vA _ vc _ hvs (by rw [show intsB [y.first, y.most] = vint y.first ++ intsB [y.most] from rfl, List.length_append]; omega) (by rfl) (by omega) hzz ?_
                    intro gw52 cw52 w52 L53 HL53 hnn hoy hfy hvg
                    refine hK' _ _ (fun _ => False) rfl ?_
                    clear hK' K'
                    simp only [Act.put, List.setIfInBounds_toArray, List.set_cons_succ, List.set_cons_zero]
                    try simp only [wpSegsF]
                    repeat (go_big_quiet_step (fail))
                    refine wpQuiet_nil ?_
                    clear c3 hle x0 x1
                    have hbw52 := app_below hbz hoz hfy
                    have how52 := hoy
                    have nL53 : L53.length ≤ 8044 + k46 * 22 + 22 := by omega
                    clear hnn hoy hfy hvg
                    clear how49 hbw49 nL48 hlbw49
                    clear hbz hoz hzz hvs hbn hown hbp hbq hsl hil hin
                    go_wp2_with fail
                    exact ⟨⟨k46 + 1, L53, by omega, by go_num, (by unfold Hid; rw [hK.out, ← List.append_assoc, ← HL48.out]; rw [HL53.out]; (try unfold encSm); (try simp only)), by omega, how52, hbw52⟩, by simp [intOf]; omega⟩
                  · obtain rfl : k46 = x.sems.l.length := by omega
                    have H2L48 := HL48
                    rw [List.take_length] at H2L48
                    clear HL48
                    have hkM : x.sems.l.length * 22 ≤ 100 * 22 := Nat.mul_le_mul_right 22 (by omega)
                    replace nL48 : L48.length ≤ 10244 := by omega
                    clear hkM
                    have c3 : w49.cell? ⟨wa.heap.size, 3, none⟩ = some (.slice x.sems.A x.sems.l.length x.sems.c) := (Blk.keep b1 hbw49).cell 3
                    have c4 : w49.cell? ⟨wa.heap.size, 4, none⟩ = some (.int .i64 x.flags) := (Blk.keep b1 hbw49).cell 4
                    have c5 : w49.cell? ⟨wa.heap.size, 5, none⟩ = some (.slice x.pools.A x.pools.l.length x.pools.c) := (Blk.keep b1 hbw49).cell 5
                    have hlbw49 : wa.heap.size < w49.heap.size := (Blk.keep b1 hbw49).lt
                    have hbp := (Below.refl w49.heap.size w49).alloc (Nat.le_refl _) (.cells #[.int .i64 x.flags, .int .i64 (x.pools.l.length : Int)] 3)
                    have hsl := SlI.of_blk (Blk.new w49 3 #[.int .i64 x.flags, .int .i64 (x.pools.l.length : Int)]) [x.flags, (x.pools.l.length : Int)] rfl (show 2 ≤ 1000000 by omega) (fun z hz => by
                      simp only [List.mem_cons, List.mem_nil_iff, or_false] at hz
                      rcases hz with rfl | rfl <;> first | assumption | (unfold i64; omega))
                    go_wp2_with fail
                    refine (refRow_any hsl (show 2 ≤ 1000 by omega)).mono ?_
                    rintro e w54 ⟨vv, rfl, hown, hbn⟩
                    obtain ⟨vA, vc, rfl, hvs, -⟩ := SlB.of_own hown
                    have hil := vint_len x.flags
                    have hin : (intsB [x.flags, (x.pools.l.length : Int)]).length ≤ 22 := intsB_len [x.flags, (x.pools.l.length : Int)]
                    have hbq := hbp.trans (hbn.mono hbp.size)
                    have hbz := hbw49.trans (hbq.mono hbw49.size)
                    have hoz := own_below how49 hbq
                    have hzz := hbz.size
                    go_wp2_with (at_builtin; refine wpList_appM w54 (by rfl) _ _ (by rfl) w1.heap.size _ _ (by rfl) hoz vA _ vc _ hvs (by rw [show intsB [x.flags, (x.pools.l.length : Int)] = vint x.flags ++ intsB [(x.pools.l.length : Int)] from rfl, List.length_append]; omega) (by rfl) (by omega) hzz ?_; intro gw55 cw55 w55 L56 HL56 hnn hoy hfy hvg)
                    clear c3 c4 c5
                    have hbw55 := app_below hbz hoz hfy
                    have how55 := hoy
                    have nL56 : L56.length ≤ 10266 := by omega
                    clear hnn hoy hfy hvg
                    clear how49 hbw49 nL48 hlbw49
                    clear hbz hoz hzz hvs hbn hown hbp hbq hsl
                    clear hil hin
                    have c5 : w55.cell? ⟨wa.heap.size, 5, none⟩ = some (.slice x.pools.A x.pools.l.length x.pools.c) := (Blk.keep b1 hbw55).cell 5
                    have hlbw55 : wa.heap.size < w55.heap.size := (Blk.keep b1 hbw55).lt
                    go_wp2_with fail
                    clear c5
                    go_loopw [5, 10] (fun v i wr => ∃ (k57 : Nat) (M : List UInt8), k57 ≤ x.pools.l.length ∧ i = .int .i64 (k57 : Int) ∧ Hid (M = L56 ++ (x.pools.l.take k57).flatMap encPl) ∧ M.length ≤ 10266 + k57 * 22 ∧ wr.ownsRow w1.heap.size 5 1 v M.length (M.map bv) ∧ Below w1.heap.size w1 wr) (fun _ i _ => x.pools.l.length - (intOf i).toNat)
                    case atStart => exact ⟨0, L56, Nat.zero_le _, rfl, (by unfold Hid; simp), by omega, how55, hbw55⟩
                    case round =>
                      clear how55 hlbw55
                      obtain ⟨k57, L59, hk, rfl, HL59, nL59, hoR, hbR⟩ := hrel
                      clear hbw55
                      obtain ⟨w60, hWr⟩ : ∃ w : World, w = wr := ⟨_, rfl⟩
                      subst hWr
                      have how60 := hoR
                      have hbw60 := hbR
                      clear hoR hbR
                      by_cases hlt : k57 < x.pools.l.length
                      · have _d := True.intro
                        have hkM : k57 * 22 ≤ 100 * 22 := Nat.mul_le_mul_right 22 (by omega)
                        have hK := Lib.hid (show (x.pools.l.take (k57 + 1)).flatMap encPl = (x.pools.l.take k57).flatMap encPl ++ encPl (atD Pl0 x.pools.l k57) by rw [take_snocG Pl0 _ _ hlt, List.flatMap_append]; simp)
                        have hy := (rdPls.keep hx.2.2.2.2.2.1 hb).2 _ (atD_mem (d := Pl0) hlt)
                        obtain ⟨eb, eo, hA, heb, hec⟩ := (rdPls.keep hx.2.2.2.2.2.1 hb).1.at_ Pl0 hlt
                        have HA := Lib.hid hA
                        clear hA
                        have X0 : w1.cell? ⟨eb, eo + k57 * 2, none⟩ = some (.int .i64 (atD Pl0 x.pools.l k57).size) := hec 0 _ rfl
                        have X1 : w1.cell? ⟨eb, eo + k57 * 2 + 1, none⟩ = some (.int .i64 (atD Pl0 x.pools.l k57).depth) := hec 1 _ rfl
                        clear hec
                        generalize atD Pl0 x.pools.l k57 = y at hy hK X0 X1
                        have i_y_size : i64 y.size := hy.1
                        have i_y_depth : i64 y.depth := hy.2
                        have c5 : w60.cell? ⟨wa.heap.size, 5, none⟩ = some (.slice (some ⟨eb, eo, none⟩) x.pools.l.length x.pools.c) := by rw [← HA.out]; exact (Blk.keep b1 hbw60).cell 5
                        have hlbw60 : wa.heap.size < w60.heap.size := (Blk.keep b1 hbw60).lt
                        have hle := Nat.lt_of_lt_of_le heb hbw60.size
                        have x0 := (hbw60.cell (p := ⟨eb, _, none⟩) heb).trans X0
                        have x1 := (hbw60.cell (p := ⟨eb, _, none⟩) heb).trans X1
                        have hbp := (Below.refl w60.heap.size w60).alloc (Nat.le_refl _) (.cells #[.int .i64 y.size, .int .i64 y.depth] 3)
                        have hsl := SlI.of_blk ((Blk.new w60 3 #[.int .i64 y.size, .int .i64 y.depth]).drew) [y.size, y.depth] rfl (show 2 ≤ 1000000 by omega) (fun z hz => by
                          simp only [List.mem_cons, List.mem_nil_iff, or_false] at hz
                          rcases hz with rfl | rfl <;> first | assumption | (unfold i64; omega))
                        replace hbp := hbp.drew
                        go_wp2_with fail
                        refine wp_region_fen (fun _ => False) [(13, 0), (0, 0), (0, 2)] (by kernel_rfl) (by kernel_rfl) ?_
                        simp only [wpSegsF, List.take, List.drop]
                        repeat (go_big_quiet_step (fail))
                        refine wpQuiet_nil (wpHeadF_want rfl (fun K' hK' => ?_))
                        go_wp2_with fail
                        refine hK' _ _ rfl (fr_graft (Fr.of_below hbp _)) ?_
                        clear hK' K'
                        generalize (w60.alloc (.cells #[.int .i64 y.size, .int .i64 y.depth] 3)).drew = w61 at hbp hsl ⊢
                        try simp only [wpSegsF, List.take, List.drop]
                        repeat (go_big_quiet_step (fail))
                        refine wpQuiet_nil (wpHeadF_want rfl (fun K' hK' => ?_))
                        go_wp2_with fail
                        refine (refRow_any hsl (show 2 ≤ 1000 by omega)).mono ?_
                        rintro e w62 ⟨vv, rfl, hown, hbn⟩
                        obtain ⟨vA, vc, rfl, hvs, -⟩ := SlB.of_own hown
                        have hbq := hbp.trans (hbn.mono hbp.size)
                        refine hK' _ _ rfl (fr_graft (Fr.of_below hbq _)) ?_
                        clear hK' K'
                        try simp only [wpSegsF, List.take, List.drop]
                        repeat (go_big_quiet_step (fail))
                        refine wpQuiet_nil (wpHeadF_bar rfl (fun K' hK' => ?_))
                        have hil := vint_len y.size
                        have hin : (intsB [y.size, y.depth]).length ≤ 22 := intsB_len [y.size, y.depth]
                        have hbz := hbw60.trans (hbq.mono hbw60.size)
                        have hoz := own_below how60 hbq
                        have hzz := hbz.size
                        refine wp_appM w62 _ _ (by rfl) w1.heap.size _ _ (by rfl) hoz vA _ vc _ hvs (by rw [show intsB [y.size, y.depth] = vint y.size ++ intsB [y.depth] from rfl, List.length_append]; omega) (by rfl) (by omega) hzz ?_
                        intro gw63 cw63 w63 L64 HL64 hnn hoy hfy hvg
                        refine hK' _ _ (fun _ => False) rfl ?_
                        clear hK' K'
                        simp only [Act.put, List.setIfInBounds_toArray, List.set_cons_succ, List.set_cons_zero]
                        try simp only [wpSegsF]
                        repeat (go_big_quiet_step (fail))
                        refine wpQuiet_nil ?_
                        clear c5 hle x0 x1
                        have hbw63 := app_below hbz hoz hfy
                        have how63 := hoy
                        have nL64 : L64.length ≤ 10266 + k57 * 22 + 22 := by omega
                        clear hnn hoy hfy hvg
                        clear how60 hbw60 nL59 hlbw60
                        clear hbz hoz hzz hvs hbn hown hbp hbq hsl hil hin
                        go_wp2_with fail
                        exact ⟨⟨k57 + 1, L64, by omega, by go_num, (by unfold Hid; rw [hK.out, ← List.append_assoc, ← HL59.out]; rw [HL64.out]; (try unfold encPl); (try simp only)), by omega, how63, hbw63⟩, by simp [intOf]; omega⟩
                      · obtain rfl : k57 = x.pools.l.length := by omega
                        have H2L59 := HL59
                        rw [List.take_length] at H2L59
                        clear HL59
                        have hkM : x.pools.l.length * 22 ≤ 100 * 22 := Nat.mul_le_mul_right 22 (by omega)
                        replace nL59 : L59.length ≤ 12466 := by omega
                        clear hkM
                        have hsn := SlI.keep hx.2.2.2.2.2.2.1 (hb.trans (hbw60.mono hb.size))
                        have c5 : w60.cell? ⟨wa.heap.size, 5, none⟩ = some (.slice x.pools.A x.pools.l.length x.pools.c) := (Blk.keep b1 hbw60).cell 5
                        have c6 : w60.cell? ⟨wa.heap.size, 6, none⟩ = some (.slice x.slates.A x.slates.l.length x.slates.c) := (Blk.keep b1 hbw60).cell 6
                        have hlbw60 : wa.heap.size < w60.heap.size := (Blk.keep b1 hbw60).lt
                        go_wp2_with fail
                        refine (refInts_any hsn (by omega)).mono ?_
                        rintro e w65 ⟨vv, rfl, hown, hbn⟩
                        obtain ⟨vA, vc, rfl, hvs, -⟩ := SlB.of_own hown
                        have hil := vint_len (x.slates.l.length : Int)
                        have hin : (lst vint x.slates.l).length ≤ 1111 := lst_len vint _ (fun y _ => vint_le y) hs6
                        have hbz := hbw60.trans (hbn.mono hbw60.size)
                        have hoz := own_below how60 hbn
                        have hzz := hbz.size
                        go_upto_region 31 with (at_builtin; refine wpList_appM w65 (by rfl) _ _ (by rfl) w1.heap.size _ _ (by rfl) hoz vA _ vc _ hvs (by rw [lst_ints, List.length_append]; omega) (by rfl) (by omega) hzz ?_; intro gw66 cw66 w66 L67 HL67 hnn hoy hfy hvg)
                        clear c5 c6
                        have hbw66 := app_below hbz hoz hfy
                        have how66 := hoy
                        have nL67 : L67.length ≤ 13577 := by omega
                        clear hnn hoy hfy hvg
                        clear how60 hbw60 nL59 hlbw60
                        clear hbz hoz hzz hvs hbn hown
                        clear hil hin hsn
                        have c7 : w66.cell? ⟨wa.heap.size, 7, none⟩ = some (.int .i64 x.cap) := (Blk.keep b1 hbw66).cell 7
                        have c8 : w66.cell? ⟨wa.heap.size, 8, none⟩ = some (.int .i64 x.bud) := (Blk.keep b1 hbw66).cell 8
                        have c9 : w66.cell? ⟨wa.heap.size, 9, none⟩ = some (.int .i64 x.lad) := (Blk.keep b1 hbw66).cell 9
                        have hlbw66 : wa.heap.size < w66.heap.size := (Blk.keep b1 hbw66).lt
                        have hbp := (Below.refl w66.heap.size w66).alloc (Nat.le_refl _) (.cells #[.int .i64 x.cap, .int .i64 x.bud, .int .i64 x.lad] 3)
                        have hsl := SlI.of_blk (Blk.new w66 3 #[.int .i64 x.cap, .int .i64 x.bud, .int .i64 x.lad]) [x.cap, x.bud, x.lad] rfl (show 3 ≤ 1000000 by omega) (fun z hz => by
                          simp only [List.mem_cons, List.mem_nil_iff, or_false] at hz
                          rcases hz with rfl | rfl | rfl <;> first | assumption | (unfold i64; omega))
                        go_wp2_with fail
                        refine (refRow_any hsl (show 3 ≤ 1000 by omega)).mono ?_
                        rintro e w68 ⟨vv, rfl, hown, hbn⟩
                        obtain ⟨vA, vc, rfl, hvs, -⟩ := SlB.of_own hown
                        have hil := vint_len x.cap
                        have hin : (intsB [x.cap, x.bud, x.lad]).length ≤ 33 := intsB_len [x.cap, x.bud, x.lad]
                        have hbq := hbp.trans (hbn.mono hbp.size)
                        have hbz := hbw66.trans (hbq.mono hbw66.size)
                        have hoz := own_below how66 hbq
                        have hzz := hbz.size
                        go_upto_region 32 with (at_builtin; refine wpList_appM w68 (by rfl) _ _ (by rfl) w1.heap.size _ _ (by rfl) hoz vA _ vc _ hvs (by rw [show intsB [x.cap, x.bud, x.lad] = vint x.cap ++ intsB [x.bud, x.lad] from rfl, List.length_append]; omega) (by rfl) (by omega) hzz ?_; intro gw69 cw69 w69 L70 HL70 hnn hoy hfy hvg)
                        clear c7 c8 c9
                        have hbw69 := app_below hbz hoz hfy
                        have how69 := hoy
                        have nL70 : L70.length ≤ 13610 := by omega
                        clear hnn hoy hfy hvg
                        clear how66 hbw66 nL67 hlbw66
                        clear hbz hoz hzz hvs hbn hown hbp hbq hsl
                        clear hil hin
                        have hsn := SlI.keep hx.2.2.2.2.2.2.2.2.2.2 (hb.trans (hbw69.mono hb.size))
                        have c10 : w69.cell? ⟨wa.heap.size, 10, none⟩ = some (.slice x.acts.A x.acts.l.length x.acts.c) := (Blk.keep b1 hbw69).cell 10
                        have hlbw69 : wa.heap.size < w69.heap.size := (Blk.keep b1 hbw69).lt
                        go_wp2_with fail
                        refine (refInts_any hsn (by omega)).mono ?_
                        rintro e w71 ⟨vv, rfl, hown, hbn⟩
                        obtain ⟨vA, vc, rfl, hvs, -⟩ := SlB.of_own hown
                        have hil := vint_len (x.acts.l.length : Int)
                        have hin : (lst vint x.acts.l).length ≤ 1111 := lst_len vint _ (fun y _ => vint_le y) hs7
                        have hbz := hbw69.trans (hbn.mono hbw69.size)
                        have hoz := own_below how69 hbn
                        have hzz := hbz.size
                        go_wp2_with (at_builtin; refine wpList_appM w71 (by rfl) _ _ (by rfl) w1.heap.size _ _ (by rfl) hoz vA _ vc _ hvs (by rw [lst_ints, List.length_append]; omega) (by rfl) (by omega) hzz ?_; intro gw72 cw72 w72 L73 HL73 hnn hoy hfy hvg)
                        clear c10
                        have hbw72 := app_below hbz hoz hfy
                        have how72 := hoy
                        have nL73 : L73.length ≤ 14721 := by omega
                        clear hnn hoy hfy hvg
                        clear how69 hbw69 nL70 hlbw69
                        clear hbz hoz hzz hvs hbn hown
                        clear hil hin hsn
                        have he : Hid (L73 = encPt x) := by
                          have e1 : intsB [x.flags, (x.pools.l.length : Int)] = vint x.flags ++ vint (x.pools.l.length : Int) := by show vint _ ++ (vint _ ++ []) = _; rw [List.append_nil]
                          unfold Hid
                          rw [HL73.out, HL70.out, HL67.out, H2L59.out, HL56.out, H2L48.out, HL45.out, H2L31.out, HL28.out, H2L20.out, HL17.out, H2L6.out, HL3.out, e1]
                          unfold encPt
                          simp only [lst, List.append_assoc]
                        try go_wp2_with fail
                        go_ret2
                        exact ⟨_, by rw [HM.out]; rfl, by rw [← he.out]; exact own_mono how72 (by omega), hb.trans (hbw72.mono hb.size)⟩
end Go.Proofs.YtahjnonkhbpnpaaGreat
/- conf's Encode. Printed by wip/gen_cwenc.py. -/
namespace Go.Proofs.YtahjnonkhbpnpaaGreat
open Go.RowKit
def encBad (x : Cf) : Bool := badCf x || decide (65536 < (encCf x).length)
def encOut (x : Cf) : List UInt8 := if encBad x then [] else encCf x
def encErr (x : Cf) : Int := if encBad x then 3 else 0
def EncPost (x : Cf) (W : World) (t : TypeId) (e : Ending) (W' : World) : Prop := ∃ v z, e = .returned (.tuple #[v, .int .i64 z]) ∧ z = (if encBad x then 3 else 0) ∧ W'.ownsRow W.heap.size t 1 v (encOut x).length ((encOut x).map bv) ∧ Below W.heap.size W W'
theorem encPt_len (x : Pt) (h : x.short) : (encPt x).length ≤ 15000 := by
  obtain ⟨h1, h2, h3, h4, h5, h6, h7⟩ := h
  have i1 := lst_len encRg x.regs.l (fun y _ => encRg_len y) h1
  have i2 := lst_len encPc x.procs.l (fun y _ => encPc_len y) h2
  have i3 := lst_len encPo x.ports.l (fun y _ => encPo_len y) h3
  have i4 := lst_len encSm x.sems.l (fun y _ => encSm_len y) h4
  have i5 := lst_len encPl x.pools.l (fun y _ => encPl_len y) h5
  have i6 := lst_len vint x.slates.l (fun y _ => vint_le y) h6
  have i7 := lst_len vint x.acts.l (fun y _ => vint_le y) h7
  have i8 := vint_le x.flags
  have i9 : (intsB [x.cap, x.bud, x.lad]).length ≤ 33 := intsB_len _
  unfold encPt
  simp only [List.length_append]
  omega
theorem encMd_len (x : Md) (h : x.wins.l.length ≤ 100) : (encMd x).length ≤ 3322 := by
  have i1 := lst_len encWn x.wins.l (fun y _ => encWn_len y) h
  have i8 := vint_le x.frame
  unfold encMd
  simp only [List.length_append]
  omega
theorem encPw_len (x : Pw) (h1 : x.levels.l.length ≤ 100) (h2 : x.naps.l.length ≤ 100) : (encPw x).length ≤ 6000 := by
  have i1 := lst_len encLv x.levels.l (fun y _ => encLv_len y) h1
  have i2 := lst_len encNp x.naps.l (fun y _ => encNp_len y) h2
  have i9 : (intsB [x.sw, x.idle, x.change, x.quant, x.slow, x.ppm]).length ≤ 66 := intsB_len _
  unfold encPw
  simp only [List.length_append]
  omega
set_option maxRecDepth 100000 in
set_option maxHeartbeats 6400000 in
theorem encode_any {x : Cf} {W : World} (hx : x.ok W) (hsh : x.short) : Calls Tryz.prog 9 #[x.v] W (EncPost x W 5) := by
  obtain ⟨⟨hs1, hs2, hs3, hs4, hs5, hs6, hs7⟩, hsp, hsm⟩ := hsh
  obtain ⟨wa, hwa⟩ : ∃ wa : World, wa = W := ⟨_, rfl⟩
  obtain ⟨T, hTT⟩ : ∃ T : Nat → Prop, T = fun b => b = W.heap.size + 1 := ⟨_, rfl⟩
  obtain ⟨l, hll⟩ : ∃ l : List UInt8, l = [] := ⟨_, rfl⟩
  obtain ⟨lg, hlg⟩ : ∃ lg : Bool, lg = false := ⟨_, rfl⟩
  have hb1 := (Below.refl W.heap.size W).alloc (Nat.le_refl _) (.cells #[.slice x.parts.A x.parts.l.length x.parts.c, .slice x.chans.A x.chans.l.length x.chans.c, .slice x.modes.A x.modes.l.length x.modes.c, .slice x.pw.levels.A x.pw.levels.l.length x.pw.levels.c, .slice x.pw.naps.A x.pw.naps.l.length x.pw.naps.c, .int .i64 x.pw.sw, .int .i64 x.pw.idle, .int .i64 x.pw.change, .int .i64 x.pw.quant, .int .i64 x.pw.slow, .int .i64 x.pw.ppm, .slice x.shed.down.A x.shed.down.l.length x.shed.down.c, .slice x.shed.up.A x.shed.up.l.length x.shed.up.c] 33)
  have hbl := (hb1.alloc (by simp) (.cells #[.slice none 0 0, .bool false] 65)).alloc (by simp; omega) (.cells #[.pointer (some ⟨W.heap.size + 1, 0, none⟩)] 59)
  have kx0 := ((Blk.new W 33 #[.slice x.parts.A x.parts.l.length x.parts.c, .slice x.chans.A x.chans.l.length x.chans.c, .slice x.modes.A x.modes.l.length x.modes.c, .slice x.pw.levels.A x.pw.levels.l.length x.pw.levels.c, .slice x.pw.naps.A x.pw.naps.l.length x.pw.naps.c, .int .i64 x.pw.sw, .int .i64 x.pw.idle, .int .i64 x.pw.change, .int .i64 x.pw.quant, .int .i64 x.pw.slow, .int .i64 x.pw.ppm, .slice x.shed.down.A x.shed.down.l.length x.shed.down.c, .slice x.shed.up.A x.shed.up.l.length x.shed.up.c]).alloc (.cells #[.slice none 0 0, .bool false] 65)).alloc (.cells #[.pointer (some ⟨W.heap.size + 1, 0, none⟩)] 59)
  have kw0 := (Blk.new (W.alloc (.cells #[.slice x.parts.A x.parts.l.length x.parts.c, .slice x.chans.A x.chans.l.length x.chans.c, .slice x.modes.A x.modes.l.length x.modes.c, .slice x.pw.levels.A x.pw.levels.l.length x.pw.levels.c, .slice x.pw.naps.A x.pw.naps.l.length x.pw.naps.c, .int .i64 x.pw.sw, .int .i64 x.pw.idle, .int .i64 x.pw.change, .int .i64 x.pw.quant, .int .i64 x.pw.slow, .int .i64 x.pw.ppm, .slice x.shed.down.A x.shed.down.l.length x.shed.down.c, .slice x.shed.up.A x.shed.up.l.length x.shed.up.c] 33)) 65 #[.slice none 0 0, .bool false]).alloc (.cells #[.pointer (some ⟨W.heap.size + 1, 0, none⟩)] 59)
  have kp0 := Blk.new ((W.alloc (.cells #[.slice x.parts.A x.parts.l.length x.parts.c, .slice x.chans.A x.chans.l.length x.chans.c, .slice x.modes.A x.modes.l.length x.modes.c, .slice x.pw.levels.A x.pw.levels.l.length x.pw.levels.c, .slice x.pw.naps.A x.pw.naps.l.length x.pw.naps.c, .int .i64 x.pw.sw, .int .i64 x.pw.idle, .int .i64 x.pw.change, .int .i64 x.pw.quant, .int .i64 x.pw.slow, .int .i64 x.pw.ppm, .slice x.shed.down.A x.shed.down.l.length x.shed.down.c, .slice x.shed.up.A x.shed.up.l.length x.shed.up.c] 33)).alloc (.cells #[.slice none 0 0, .bool false] 65)) 59 #[.pointer (some ⟨W.heap.size + 1, 0, none⟩)]
  simp only [World.size_alloc] at kw0 kp0
  have hz0 : (((W.alloc (.cells #[.slice x.parts.A x.parts.l.length x.parts.c, .slice x.chans.A x.chans.l.length x.chans.c, .slice x.modes.A x.modes.l.length x.modes.c, .slice x.pw.levels.A x.pw.levels.l.length x.pw.levels.c, .slice x.pw.naps.A x.pw.naps.l.length x.pw.naps.c, .int .i64 x.pw.sw, .int .i64 x.pw.idle, .int .i64 x.pw.change, .int .i64 x.pw.quant, .int .i64 x.pw.slow, .int .i64 x.pw.ppm, .slice x.shed.down.A x.shed.down.l.length x.shed.down.c, .slice x.shed.up.A x.shed.up.l.length x.shed.up.c] 33)).alloc (.cells #[.slice none 0 0, .bool false] 65)).alloc (.cells #[.pointer (some ⟨W.heap.size + 1, 0, none⟩)] 59)).heap.size = W.heap.size + 3 := by simp
  simp only [Cf.v]
  go_enter Tryz.func9, Tryz.ntmps9
  go_upto_region 2 with fail
  generalize ((W.alloc (.cells #[.slice x.parts.A x.parts.l.length x.parts.c, .slice x.chans.A x.chans.l.length x.chans.c, .slice x.modes.A x.modes.l.length x.modes.c, .slice x.pw.levels.A x.pw.levels.l.length x.pw.levels.c, .slice x.pw.naps.A x.pw.naps.l.length x.pw.naps.c, .int .i64 x.pw.sw, .int .i64 x.pw.idle, .int .i64 x.pw.change, .int .i64 x.pw.quant, .int .i64 x.pw.slow, .int .i64 x.pw.ppm, .slice x.shed.down.A x.shed.down.l.length x.shed.down.c, .slice x.shed.up.A x.shed.up.l.length x.shed.up.c] 33)).alloc (.cells #[.slice none 0 0, .bool false] 65)).alloc (.cells #[.pointer (some ⟨W.heap.size + 1, 0, none⟩)] 59) = W0 at kx0 kw0 kp0 hbl hz0 ⊢
  have hw0 : WrC W0 wa.heap.size (W.heap.size + 1) T l lg := by
    rw [hwa, hTT, hll, hlg]
    exact ⟨⟨_, kw0, World.ownsRow_nil _ _ _ _, fun b h => by cases h⟩, rfl, fun b h => by omega, fun b h => by omega⟩
  have np0 : ¬ T (W.heap.size + 1 + 1) := by rw [hTT]; omega
  have nx0 : ¬ T W.heap.size := by rw [hTT]; omega
  have hB0 : Below wa.heap.size wa W0 := by rw [hwa]; exact hbl
  have F0 : Fr T W W0 := Fr.of_below hbl T
  have G0 : Grw T T W W0 := fun b hb => ⟨.inl hb, hw0.bnd b hb⟩
  have hl : l.length ≤ 0 := by rw [hll]; exact Nat.le_refl _
  rw [← hwa] at hx
  have hsz : W.heap.size ≤ wa.heap.size := by rw [hwa]; exact Nat.le_refl _
  have hTg : Hid (∀ b, T b → b = W.heap.size + 1) := by rw [hTT]; exact fun b h => h
  have HWA := Lib.hid hwa
  have HLL := Lib.hid hll
  have HLG := Lib.hid hlg
  generalize hg : W.heap.size + 1 = g at hw0 kp0 kw0 hTg ⊢
  clear hTT hwa hll hlg kw0 hb1
  generalize hbx : W.heap.size = bx at kx0 nx0 ⊢
  generalize hpb : g + 1 = pb at kp0 ⊢
  rw [hg, hpb] at np0
  clear hg hbx hpb
  have p0 : W0.cell? ⟨pb, 0, none⟩ = some (.pointer (some ⟨g, 0, none⟩)) := kp0.cell 0
  have lp0 := kp0.lt
  have lx0 := kx0.lt
  have lg0 := hw0.lt
  have c0 : W0.cell? ⟨bx, 0, none⟩ = some (.slice x.parts.A x.parts.l.length x.parts.c) := kx0.cell 0
  go_wp2_with fail
  refine (list_Pt (N := 40000000) (M := 15000) (enc := encPt) (bad := badPt) hx.1 hs1 (fun y hy => one_Pt y (hx.1.2 y hy) (hsp y hy)) (fun y hy => encPt_len y (hsp y hy)) (by omega) true_stq trivial hw0 hB0 (by (try simp only [List.length_append]); omega)).mono ?_
  rintro e W1 ⟨rfl, T1, hw1, hf1, hg1⟩
  have il0 : (lst encPt x.parts.l).length ≤ 1500011 := lst_len encPt _ (fun y hy => encPt_len y (hsp y hy)) hs1
  replace hw1 : WrC W1 wa.heap.size g T1 (l ++ lst encPt x.parts.l) (lg || badL badPt x.parts.l) := hw1
  have kp1 := kp0.fr hf1 np0
  have kx1 := kx0.fr hf1 nx0
  have np1 := grw_no hg1 lp0 np0
  have nx1 := grw_no hg1 lx0 nx0
  have hB1 := hB0.trans (hf1.below (fun b hb h => by have := hw0.lo b h; omega) hB0.size)
  have F1 : Fr T W W1 := F0.grw G0 hf1
  have G1 : Grw T T1 W W1 := G0.trans F0.size hg1
  clear p0 lp0 lx0 lg0 hf1 hg1 kp0 kx0 np0 nx0 F0 G0 hw0 c0
  have p0 : W1.cell? ⟨pb, 0, none⟩ = some (.pointer (some ⟨g, 0, none⟩)) := kp1.cell 0
  have lp1 := kp1.lt
  have lx1 := kx1.lt
  have lg1 := hw1.lt
  have c1 : W1.cell? ⟨bx, 1, none⟩ = some (.slice x.chans.A x.chans.l.length x.chans.c) := kx1.cell 1
  go_wp2_with fail
  refine (list_Ch (N := 60000000) (M := 44) (enc := encCh) (bad := noB) hx.2.1 hs2 (fun y hy => one_Ch y (hx.2.1.2 y hy)) (fun y hy => encCh_len y) (by omega) (cap_stq g pb) ⟨kp1, np1⟩ hw1 hB1 (by (try simp only [List.length_append]); omega)).mono ?_
  rintro e W2 ⟨rfl, T2, hw2, hf2, hg2⟩
  have il1 : (lst encCh x.chans.l).length ≤ 4411 := lst_len encCh _ (fun y hy => encCh_len y) hs2
  replace hw2 : WrC W2 wa.heap.size g T2 ((l ++ lst encPt x.parts.l) ++ lst encCh x.chans.l) ((lg || badL badPt x.parts.l) || badL noB x.chans.l) := hw2
  have kp2 := kp1.fr hf2 np1
  have kx2 := kx1.fr hf2 nx1
  have np2 := grw_no hg2 lp1 np1
  have nx2 := grw_no hg2 lx1 nx1
  have hB2 := hB1.trans (hf2.below (fun b hb h => by have := hw1.lo b h; omega) hB1.size)
  have F2 : Fr T W W2 := F1.grw G1 hf2
  have G2 : Grw T T2 W W2 := G1.trans F1.size hg2
  clear p0 lp1 lx1 lg1 hf2 hg2 kp1 kx1 np1 nx1 F1 G1 hw1 c1
  have p0 : W2.cell? ⟨pb, 0, none⟩ = some (.pointer (some ⟨g, 0, none⟩)) := kp2.cell 0
  have lp2 := kp2.lt
  have lx2 := kx2.lt
  have lg2 := hw2.lt
  have c2 : W2.cell? ⟨bx, 2, none⟩ = some (.slice x.modes.A x.modes.l.length x.modes.c) := kx2.cell 2
  go_wp2_with fail
  refine (list_Md (N := 50000000) (M := 3322) (enc := encMd) (bad := badMd) hx.2.2.1 hs3 (fun y hy => one_Md y (hx.2.2.1.2 y hy) (hsm y hy)) (fun y hy => encMd_len y (hsm y hy)) (by omega) true_stq trivial hw2 hB2 (by (try simp only [List.length_append]); omega)).mono ?_
  rintro e W3 ⟨rfl, T3, hw3, hf3, hg3⟩
  have il2 : (lst encMd x.modes.l).length ≤ 332211 := lst_len encMd _ (fun y hy => encMd_len y (hsm y hy)) hs3
  replace hw3 : WrC W3 wa.heap.size g T3 (((l ++ lst encPt x.parts.l) ++ lst encCh x.chans.l) ++ lst encMd x.modes.l) (((lg || badL badPt x.parts.l) || badL noB x.chans.l) || badL badMd x.modes.l) := hw3
  have kp3 := kp2.fr hf3 np2
  have kx3 := kx2.fr hf3 nx2
  have np3 := grw_no hg3 lp2 np2
  have nx3 := grw_no hg3 lx2 nx2
  have hB3 := hB2.trans (hf3.below (fun b hb h => by have := hw2.lo b h; omega) hB2.size)
  have F3 : Fr T W W3 := F2.grw G2 hf3
  have G3 : Grw T T3 W W3 := G2.trans F2.size hg3
  clear p0 lp2 lx2 lg2 hf3 hg3 kp2 kx2 np2 nx2 F2 G2 hw2 c2
  have p0 : W3.cell? ⟨pb, 0, none⟩ = some (.pointer (some ⟨g, 0, none⟩)) := kp3.cell 0
  have lp3 := kp3.lt
  have lx3 := kx3.lt
  have lg3 := hw3.lt
  have c3 : W3.cell? ⟨bx, 3, none⟩ = some (.slice x.pw.levels.A x.pw.levels.l.length x.pw.levels.c) := kx3.cell 3
  have c4 : W3.cell? ⟨bx, 4, none⟩ = some (.slice x.pw.naps.A x.pw.naps.l.length x.pw.naps.c) := kx3.cell 4
  have c5 : W3.cell? ⟨bx, 5, none⟩ = some (.int .i64 x.pw.sw) := kx3.cell 5
  have c6 : W3.cell? ⟨bx, 6, none⟩ = some (.int .i64 x.pw.idle) := kx3.cell 6
  have c7 : W3.cell? ⟨bx, 7, none⟩ = some (.int .i64 x.pw.change) := kx3.cell 7
  have c8 : W3.cell? ⟨bx, 8, none⟩ = some (.int .i64 x.pw.quant) := kx3.cell 8
  have c9 : W3.cell? ⟨bx, 9, none⟩ = some (.int .i64 x.pw.slow) := kx3.cell 9
  have c10 : W3.cell? ⟨bx, 10, none⟩ = some (.int .i64 x.pw.ppm) := kx3.cell 10
  go_wp2_with fail
  refine (one_Pw x.pw hx.2.2.2.1 hs4 hs5 T3 W3 _ _ trivial hw3 hB3 (by (try simp only [List.length_append]); omega)).mono ?_
  rintro e W4 ⟨rfl, T4, hw4, hf4, hg4⟩
  have il3 : (encPw x.pw).length ≤ 6000 := encPw_len x.pw hs4 hs5
  have kp4 := kp3.fr hf4 np3
  have kx4 := kx3.fr hf4 nx3
  have np4 := grw_no hg4 lp3 np3
  have nx4 := grw_no hg4 lx3 nx3
  have hB4 := hB3.trans (hf4.below (fun b hb h => by have := hw3.lo b h; omega) hB3.size)
  have F4 : Fr T W W4 := F3.grw G3 hf4
  have G4 : Grw T T4 W W4 := G3.trans F3.size hg4
  clear p0 lp3 lx3 lg3 hf4 hg4 kp3 kx3 np3 nx3 F3 G3 hw3 c3 c4 c5 c6 c7 c8 c9 c10
  have p0 : W4.cell? ⟨pb, 0, none⟩ = some (.pointer (some ⟨g, 0, none⟩)) := kp4.cell 0
  have lp4 := kp4.lt
  have lx4 := kx4.lt
  have lg4 := hw4.lt
  have c11 : W4.cell? ⟨bx, 11, none⟩ = some (.slice x.shed.down.A x.shed.down.l.length x.shed.down.c) := kx4.cell 11
  go_wp2_with fail
  refine (numbersC_any hx.2.2.2.2.1 hs6 hw4 hB4 (by (try simp only [List.length_append]); omega)).mono ?_
  rintro e W5 ⟨rfl, T5, hw5, hf5, hg5⟩
  have il4 : (lst vint x.shed.down.l).length ≤ 1111 := lst_len vint _ (fun y _ => vint_le y) hs6
  have kp5 := kp4.fr hf5 np4
  have kx5 := kx4.fr hf5 nx4
  have np5 := grw_no hg5 lp4 np4
  have nx5 := grw_no hg5 lx4 nx4
  have hB5 := hB4.trans (hf5.below (fun b hb h => by have := hw4.lo b h; omega) hB4.size)
  have F5 : Fr T W W5 := F4.grw G4 hf5
  have G5 : Grw T T5 W W5 := G4.trans F4.size hg5
  clear p0 lp4 lx4 lg4 hf5 hg5 kp4 kx4 np4 nx4 F4 G4 hw4 c11
  have p0 : W5.cell? ⟨pb, 0, none⟩ = some (.pointer (some ⟨g, 0, none⟩)) := kp5.cell 0
  have lp5 := kp5.lt
  have lx5 := kx5.lt
  have lg5 := hw5.lt
  have c12 : W5.cell? ⟨bx, 12, none⟩ = some (.slice x.shed.up.A x.shed.up.l.length x.shed.up.c) := kx5.cell 12
  go_wp2_with fail
  refine (numbersC_any hx.2.2.2.2.2 hs7 hw5 hB5 (by (try simp only [List.length_append]); omega)).mono ?_
  rintro e W6 ⟨rfl, T6, hw6, hf6, hg6⟩
  have il5 : (lst vint x.shed.up.l).length ≤ 1111 := lst_len vint _ (fun y _ => vint_le y) hs7
  have kp6 := kp5.fr hf6 np5
  have kx6 := kx5.fr hf6 nx5
  have np6 := grw_no hg6 lp5 np5
  have nx6 := grw_no hg6 lx5 nx5
  have hB6 := hB5.trans (hf6.below (fun b hb h => by have := hw5.lo b h; omega) hB5.size)
  have F6 : Fr T W W6 := F5.grw G5 hf6
  have G6 : Grw T T6 W W6 := G5.trans F5.size hg6
  clear p0 lp5 lx5 lg5 hf6 hg6 kp5 kx5 np5 nx5 F5 G5 hw5 c12
  have hE : ((((((l ++ lst encPt x.parts.l) ++ lst encCh x.chans.l) ++ lst encMd x.modes.l) ++ encPw x.pw) ++ lst vint x.shed.down.l) ++ lst vint x.shed.up.l) = encCf x := by
    rw [HLL.out]
    unfold encCf
    simp only [List.nil_append]
  have hG : ((((((lg || badL badPt x.parts.l) || badL noB x.chans.l) || badL badMd x.modes.l) || badPw x.pw) || badL noB x.shed.down.l) || badL noB x.shed.up.l) = badCf x := by
    rw [HLG.out]
    unfold badCf
    simp only [Bool.false_or, Bool.or_assoc]
  rw [hE, hG] at hw6
  have hlen : (encCf x).length ≤ 80000000 := by
    rw [← hE]
    simp only [List.length_append]
    omega
  clear hE hG
  have hBf := hB6
  rw [HWA.out] at hBf
  have lp9 := kp6.lt
  have lg9 := hw6.lt
  have p0 : W6.cell? ⟨pb, 0, none⟩ = some (.pointer (some ⟨g, 0, none⟩)) := kp6.cell 0
  go_wp2_with fail
  refine (bytesC_any hw6 (by omega)).mono ?_
  rintro e W9 ⟨v9, rfl, hown9, hb9⟩
  have hw9 := hw6.keep hb9
  have hB9 := hBf.trans (hb9.mono hBf.size)
  obtain ⟨A9, c9, rfl, hs9, -⟩ := SlB.of_own hown9
  obtain ⟨⟨v, kb, -, -⟩, -, -, -⟩ := hw9
  have p9 : W9.cell? ⟨pb, 0, none⟩ = some (.pointer (some ⟨g, 0, none⟩)) := (kp6.keep hb9).cell 0
  have q9 : W9.cell? ⟨g, 1, none⟩ = some (.bool (badCf x)) := kb.cell 1
  have lq9 := kb.lt
  have lr9 := (kp6.keep hb9).lt
  have hos := own_mono hown9 hBf.size
  clear p0 hw6 hown9 hs9
  cases hbd : badCf x with
  | true =>
    rw [hbd] at q9
    have HX : Hid (encBad x = true) := by unfold Hid encBad; rw [hbd]; rfl
    clear hbd
    go_wp2_with fail
    go_ret2
    exact ⟨_, _, rfl, by rw [HX.out]; rfl, by unfold encOut; rw [HX.out]; exact World.ownsRow_nil _ _ _ _, hB9⟩
  | false =>
    rw [hbd] at q9
    by_cases hln : 65536 < (encCf x).length
    · have HX : Hid (encBad x = true) := by unfold Hid encBad; rw [hbd]; simp [hln]
      clear hbd
      go_wp2_with fail
      go_ret2
      exact ⟨_, _, rfl, by rw [HX.out]; rfl, by unfold encOut; rw [HX.out]; exact World.ownsRow_nil _ _ _ _, hB9⟩
    · have HX : Hid (encBad x = false) := by unfold Hid encBad; rw [hbd]; simp; omega
      clear hbd
      go_wp2_with fail
      go_ret2
      exact ⟨_, _, rfl, by rw [HX.out]; rfl, by unfold encOut; rw [HX.out]; exact hos, hB9⟩
end Go.Proofs.YtahjnonkhbpnpaaGreat
