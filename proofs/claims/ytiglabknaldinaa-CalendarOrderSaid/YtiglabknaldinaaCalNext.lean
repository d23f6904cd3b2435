/- The walk of calendar's next. -/
import Derived.Test.YtiglabknaldinaaCalWalks
import Derived.Test.YtiglabknaldinaaMixE
import Derived.Test.YtiglabknaldinaaMore
namespace Go.Proofs.Ytiglabknaldinaa
open Go.RowKit
def nextP (x : Cf) (p : Pg) (f : Fm) : Pg × Bool := match stepS x p f with
  | none => (Pg0, false)
  | some q => (q, true)
set_option maxRecDepth 100000 in
set_option maxHeartbeats 3200000 in
theorem next_page {x : Cf} {w : World} (hx : x.ok w) {p : Pg} (hp : PgOk x p) {f : Fm} (hf : f.ok w) :
    Calls Try.prog 23 #[p.v, x.v, f.v] w fun e w' => e = .returned (.tuple #[(nextP x p f).1.v, .bool (nextP x p f).2]) ∧ Below w.heap.size w w' := by
  have hn := hx.2.2.1.1.len
  obtain ⟨he, ha, hm, hl⟩ := hp
  have hb := (((((Below.refl w.heap.size w).alloc (Nat.le_refl _) (.cells #[.int .i64 p.at_, .int .i64 p.end_, .int .i64 p.mode, .int .i64 p.level] 42)).alloc (by simp) (.cells #[.slice x.parts.A x.parts.l.length x.parts.c, .slice x.chans.A x.chans.l.length x.chans.c, .slice x.modes.A x.modes.l.length x.modes.c, .slice x.pw.levels.A x.pw.levels.l.length x.pw.levels.c, .slice x.pw.naps.A x.pw.naps.l.length x.pw.naps.c, .int .i64 x.pw.sw, .int .i64 x.pw.idle, .int .i64 x.pw.change, .int .i64 x.pw.quant, .int .i64 x.pw.slow, .int .i64 x.pw.ppm, .slice x.shed.down.A x.shed.down.l.length x.shed.down.c, .slice x.shed.up.A x.shed.up.l.length x.shed.up.c] 33)).alloc (by simp; omega) (.cells #[.int .i64 f.reading, .int .i64 f.mode, .int .i64 f.drift, .int .i64 f.choice] 76)).alloc (by simp; omega) (.cells #[.int .i64 Pg0.at_, .int .i64 Pg0.end_, .int .i64 Pg0.mode, .int .i64 Pg0.level] 42))
  simp only [Pg0] at hb
  have b0 := (((Blk.new w 42 #[.int .i64 p.at_, .int .i64 p.end_, .int .i64 p.mode, .int .i64 p.level]).alloc (.cells #[.slice x.parts.A x.parts.l.length x.parts.c, .slice x.chans.A x.chans.l.length x.chans.c, .slice x.modes.A x.modes.l.length x.modes.c, .slice x.pw.levels.A x.pw.levels.l.length x.pw.levels.c, .slice x.pw.naps.A x.pw.naps.l.length x.pw.naps.c, .int .i64 x.pw.sw, .int .i64 x.pw.idle, .int .i64 x.pw.change, .int .i64 x.pw.quant, .int .i64 x.pw.slow, .int .i64 x.pw.ppm, .slice x.shed.down.A x.shed.down.l.length x.shed.down.c, .slice x.shed.up.A x.shed.up.l.length x.shed.up.c] 33)).alloc (.cells #[.int .i64 f.reading, .int .i64 f.mode, .int .i64 f.drift, .int .i64 f.choice] 76)).alloc (.cells #[.int .i64 Pg0.at_, .int .i64 Pg0.end_, .int .i64 Pg0.mode, .int .i64 Pg0.level] 42)
  have b1 := ((Blk.new (w.alloc (.cells #[.int .i64 p.at_, .int .i64 p.end_, .int .i64 p.mode, .int .i64 p.level] 42)) 33 #[.slice x.parts.A x.parts.l.length x.parts.c, .slice x.chans.A x.chans.l.length x.chans.c, .slice x.modes.A x.modes.l.length x.modes.c, .slice x.pw.levels.A x.pw.levels.l.length x.pw.levels.c, .slice x.pw.naps.A x.pw.naps.l.length x.pw.naps.c, .int .i64 x.pw.sw, .int .i64 x.pw.idle, .int .i64 x.pw.change, .int .i64 x.pw.quant, .int .i64 x.pw.slow, .int .i64 x.pw.ppm, .slice x.shed.down.A x.shed.down.l.length x.shed.down.c, .slice x.shed.up.A x.shed.up.l.length x.shed.up.c]).alloc (.cells #[.int .i64 f.reading, .int .i64 f.mode, .int .i64 f.drift, .int .i64 f.choice] 76)).alloc (.cells #[.int .i64 Pg0.at_, .int .i64 Pg0.end_, .int .i64 Pg0.mode, .int .i64 Pg0.level] 42)
  have b2 := (Blk.new ((w.alloc (.cells #[.int .i64 p.at_, .int .i64 p.end_, .int .i64 p.mode, .int .i64 p.level] 42)).alloc (.cells #[.slice x.parts.A x.parts.l.length x.parts.c, .slice x.chans.A x.chans.l.length x.chans.c, .slice x.modes.A x.modes.l.length x.modes.c, .slice x.pw.levels.A x.pw.levels.l.length x.pw.levels.c, .slice x.pw.naps.A x.pw.naps.l.length x.pw.naps.c, .int .i64 x.pw.sw, .int .i64 x.pw.idle, .int .i64 x.pw.change, .int .i64 x.pw.quant, .int .i64 x.pw.slow, .int .i64 x.pw.ppm, .slice x.shed.down.A x.shed.down.l.length x.shed.down.c, .slice x.shed.up.A x.shed.up.l.length x.shed.up.c] 33)) 76 #[.int .i64 f.reading, .int .i64 f.mode, .int .i64 f.drift, .int .i64 f.choice]).alloc (.cells #[.int .i64 Pg0.at_, .int .i64 Pg0.end_, .int .i64 Pg0.mode, .int .i64 Pg0.level] 42)
  have b3 := Blk.new (((w.alloc (.cells #[.int .i64 p.at_, .int .i64 p.end_, .int .i64 p.mode, .int .i64 p.level] 42)).alloc (.cells #[.slice x.parts.A x.parts.l.length x.parts.c, .slice x.chans.A x.chans.l.length x.chans.c, .slice x.modes.A x.modes.l.length x.modes.c, .slice x.pw.levels.A x.pw.levels.l.length x.pw.levels.c, .slice x.pw.naps.A x.pw.naps.l.length x.pw.naps.c, .int .i64 x.pw.sw, .int .i64 x.pw.idle, .int .i64 x.pw.change, .int .i64 x.pw.quant, .int .i64 x.pw.slow, .int .i64 x.pw.ppm, .slice x.shed.down.A x.shed.down.l.length x.shed.down.c, .slice x.shed.up.A x.shed.up.l.length x.shed.up.c] 33)).alloc (.cells #[.int .i64 f.reading, .int .i64 f.mode, .int .i64 f.drift, .int .i64 f.choice] 76)) 42 #[.int .i64 Pg0.at_, .int .i64 Pg0.end_, .int .i64 Pg0.mode, .int .i64 Pg0.level]
  simp only [World.size_alloc] at b1 b2 b3
  simp only [Pg0] at b0 b1 b2 b3
  simp only [Pg.v, Fm.v]
  simp only [Cf.v, Hd.v]
  go_enter Try.func23, Try.ntmps23
  go_upto_region 1 with fail
  generalize (((w.alloc (.cells #[.int .i64 p.at_, .int .i64 p.end_, .int .i64 p.mode, .int .i64 p.level] 42)).alloc (.cells #[.slice x.parts.A x.parts.l.length x.parts.c, .slice x.chans.A x.chans.l.length x.chans.c, .slice x.modes.A x.modes.l.length x.modes.c, .slice x.pw.levels.A x.pw.levels.l.length x.pw.levels.c, .slice x.pw.naps.A x.pw.naps.l.length x.pw.naps.c, .int .i64 x.pw.sw, .int .i64 x.pw.idle, .int .i64 x.pw.change, .int .i64 x.pw.quant, .int .i64 x.pw.slow, .int .i64 x.pw.ppm, .slice x.shed.down.A x.shed.down.l.length x.shed.down.c, .slice x.shed.up.A x.shed.up.l.length x.shed.up.c] 33)).alloc (.cells #[.int .i64 f.reading, .int .i64 f.mode, .int .i64 f.drift, .int .i64 f.choice] 76)).alloc (.cells #[.int .i64 0, .int .i64 0, .int .i64 0, .int .i64 0] 42) = w1 at hb b0 b1 b2 b3 ⊢
  have c0 : w1.cell? ⟨w.heap.size + 1, 0, none⟩ = some (.slice x.parts.A x.parts.l.length x.parts.c) := b1.cell 0
  have c1 : w1.cell? ⟨w.heap.size + 1, 1, none⟩ = some (.slice x.chans.A x.chans.l.length x.chans.c) := b1.cell 1
  have c2 : w1.cell? ⟨w.heap.size + 1, 2, none⟩ = some (.slice x.modes.A x.modes.l.length x.modes.c) := b1.cell 2
  have c3 : w1.cell? ⟨w.heap.size + 1, 3, none⟩ = some (.slice x.pw.levels.A x.pw.levels.l.length x.pw.levels.c) := b1.cell 3
  have c4 : w1.cell? ⟨w.heap.size + 1, 4, none⟩ = some (.slice x.pw.naps.A x.pw.naps.l.length x.pw.naps.c) := b1.cell 4
  have c5 : w1.cell? ⟨w.heap.size + 1, 5, none⟩ = some (.int .i64 x.pw.sw) := b1.cell 5
  have c6 : w1.cell? ⟨w.heap.size + 1, 6, none⟩ = some (.int .i64 x.pw.idle) := b1.cell 6
  have c7 : w1.cell? ⟨w.heap.size + 1, 7, none⟩ = some (.int .i64 x.pw.change) := b1.cell 7
  have c8 : w1.cell? ⟨w.heap.size + 1, 8, none⟩ = some (.int .i64 x.pw.quant) := b1.cell 8
  have c9 : w1.cell? ⟨w.heap.size + 1, 9, none⟩ = some (.int .i64 x.pw.slow) := b1.cell 9
  have c10 : w1.cell? ⟨w.heap.size + 1, 10, none⟩ = some (.int .i64 x.pw.ppm) := b1.cell 10
  have c11 : w1.cell? ⟨w.heap.size + 1, 11, none⟩ = some (.slice x.shed.down.A x.shed.down.l.length x.shed.down.c) := b1.cell 11
  have c12 : w1.cell? ⟨w.heap.size + 1, 12, none⟩ = some (.slice x.shed.up.A x.shed.up.l.length x.shed.up.c) := b1.cell 12
  have p1 : w1.cell? ⟨w.heap.size, 1, none⟩ = some (.int .i64 p.end_) := b0.cell 1
  have p2 : w1.cell? ⟨w.heap.size, 2, none⟩ = some (.int .i64 p.mode) := b0.cell 2
  have p3 : w1.cell? ⟨w.heap.size, 3, none⟩ = some (.int .i64 p.level) := b0.cell 3
  have f0 : w1.cell? ⟨w.heap.size + 1 + 1, 0, none⟩ = some (.int .i64 f.reading) := b2.cell 0
  have f1 : w1.cell? ⟨w.heap.size + 1 + 1, 1, none⟩ = some (.int .i64 f.mode) := b2.cell 1
  have hs := hb.size
  have l0 := b0.lt
  have l1 := b1.lt
  have l2 := b2.lt
  have hx1 := rdCf.keep hx hb
  obtain ⟨q, hq⟩ : ∃ q : Pg, q = ⟨p.end_, 0, turnS x.modes.l.length p.mode f.mode, nextS x.shed.down.l x.shed.up.l p.level f.reading⟩ := ⟨_, rfl⟩
  have HQ := Lib.hid hq
  clear hq
  go_cut [8] (fun v W => ∃ g, v = .pointer (some ⟨g, 0, none⟩) ∧ Blk W g 42 #[.int .i64 q.at_, .int .i64 q.end_, .int .i64 q.mode, .int .i64 q.level] ∧ Below w1.heap.size w1 W ∧ w1.heap.size ≤ g)
  case first =>
    refine wp_region_fre (fun _ => False) [(7, 0), (6, 0), (1, 4), (0, 0)] 16 (by kernel_rfl) (by kernel_rfl) ?_
    simp only [wpSegsE0, List.take, List.drop]
    repeat (go_big_quiet_step (fail))
    refine wpQuiet_nil ?_
    rw [if_neg (by decide)]
    refine ⟨early_want rfl rfl (fun K' hK' => ?_), wpHeadF_want rfl (fun K' hK' => ?_)⟩
    · have _d := True.intro
      go_wp2_with fail
      have v1B := ((Below.refl w1.heap.size w1).trans (((Below.refl w1.heap.size w1).alloc (Nat.le_refl _) (.cells #[.int .i64 0, .int .i64 0, .int .i64 0, .int .i64 0] 42)).mono (Below.refl w1.heap.size w1).size)).drew
      have v1K := (Blk.new w1 42 #[.int .i64 0, .int .i64 0, .int .i64 0, .int .i64 0]).drew
      have v1G := (Below.refl w1.heap.size w1).size
      refine hK' _ _ rfl (fr_graft (Fr.of_below v1B _)) ?_
      clear hK' K'
      generalize (w1.alloc (.cells #[.int .i64 0, .int .i64 0, .int .i64 0, .int .i64 0] 42)).drew = v1 at v1B v1K ⊢
      try simp only [wpSegsE1, wpSegsE0, List.take, List.drop]
      repeat (go_big_quiet_step (fail))
      refine wpQuiet_nil ?_
      first | rw [if_neg (by decide)] | rw [if_pos trivial]
      refine wpHeadF_want rfl (fun K' hK' => ?_)
      go_wp2_with fail
      refine (turn_any x (w := v1) (rdCf.keep hx1 v1B) p.mode f.mode).mono ?_
      rintro e v2 ⟨rfl, v2b⟩
      have v2B := Below.trans v1B (v2b.mono v1B.size)
      have v2K := v1K.keep v2b
      refine hK' _ _ rfl (fr_graft (Fr.of_below v2B _)) ?_
      clear hK' K'
      try simp only [wpSegsE1, wpSegsE0, List.take, List.drop]
      repeat (go_big_quiet_step (fail))
      refine wpQuiet_nil ?_
      first | rw [if_neg (by decide)] | rw [if_pos trivial]
      refine wpHeadF_want rfl (fun K' hK' => ?_)
      go_wp2_with fail
      refine (next_any (w := v2) (rdSd.keep hx1.2.2.2.2 v2B).1 (rdSd.keep hx1.2.2.2.2 v2B).2 p.level f.reading hl).mono ?_
      rintro e v3 ⟨rfl, v3b⟩
      have v3B := Below.trans v2B (v3b.mono v2B.size)
      have v3K := v2K.keep v3b
      refine hK' _ _ rfl (fr_graft (Fr.of_below v3B _)) ?_
      clear hK' K'
      try simp only [wpSegsE1, wpSegsE0, List.take, List.drop]
      repeat (go_big_quiet_step (fail))
      refine wpQuiet_nil ?_
      first | rw [if_neg (by decide)] | rw [if_pos trivial]
      try simp only [wpSegsE1, wpSegsE0, List.take, List.drop]
      repeat (go_big_quiet_step (fail))
      refine wpQuiet_nil ?_
      first | rw [if_neg (by decide)] | rw [if_pos trivial]
      refine wpHeadF_want rfl (fun K' hK' => ?_)
      have zz0 : v3.cell? ⟨w1.heap.size, 0, none⟩ = some (.int .i64 0) := v3K.cell 0
      have zz1 : v3.cell? ⟨w1.heap.size, 1, none⟩ = some (.int .i64 0) := v3K.cell 1
      have zz2 : v3.cell? ⟨w1.heap.size, 2, none⟩ = some (.int .i64 0) := v3K.cell 2
      have zz3 : v3.cell? ⟨w1.heap.size, 3, none⟩ = some (.int .i64 0) := v3K.cell 3
      have zf : ∀ i, v3.frozen? ⟨w1.heap.size, i, none⟩ = false := v3K.frozen
      have zl := v3K.lt
      go_wp2_with fail
      have nK : Blk (setRow v3 w1.heap.size 0 [.int .i64 p.end_, .int .i64 0, .int .i64 (turnS x.modes.l.length p.mode f.mode), .int .i64 (nextS x.shed.down.l x.shed.up.l p.level f.reading)]) w1.heap.size 42 _ := Blk.row v3K rfl
      have nB := Below.row (g := w1.heap.size) [.int .i64 p.end_, .int .i64 0, .int .i64 (turnS x.modes.l.length p.mode f.mode), .int .i64 (nextS x.shed.down.l x.shed.up.l p.level f.reading)] 0 v3B (Nat.le_refl _)
      refine hK' _ _ rfl (fr_graft (Fr.of_below nB _)) ?_
      clear hK' K' zz0 zz1 zz2 zz3 zf
      try simp only [wpSegsE1, List.take, List.drop]
      repeat (go_big_quiet_step (fail))
      refine wpQuiet_nil ?_
      obtain rfl := HQ.out
      go_wp2_with fail
      go_meet
      case rel => exact ⟨w1.heap.size, rfl, nK, nB, (Nat.le_refl _)⟩
    · have _d := True.intro
      go_wp2_with fail
      refine (turn_any x (w := w1.drew) (rdCf.keep hx1 (Below.drew (Below.refl w1.heap.size w1))) p.mode f.mode).mono ?_
      rintro e v1 ⟨rfl, v1b⟩
      have v1B := Below.trans (Below.drew (Below.refl w1.heap.size w1)) (v1b.mono (Below.drew (Below.refl w1.heap.size w1)).size)
      refine hK' _ _ rfl (fr_graft (Fr.of_below v1B _)) ?_
      clear hK' K'
      try simp only [wpSegsE1, wpSegsE0, List.take, List.drop]
      repeat (go_big_quiet_step (fail))
      refine wpQuiet_nil ?_
      first | rw [if_neg (by decide)] | rw [if_pos trivial]
      refine ⟨early_want rfl rfl (fun K' hK' => ?_), wpHeadF_want rfl (fun K' hK' => ?_)⟩
      · have _d := True.intro
        go_wp2_with fail
        have v2B := (v1B.trans (((Below.refl v1.heap.size v1).alloc (Nat.le_refl _) (.cells #[.int .i64 0, .int .i64 0, .int .i64 0, .int .i64 0] 42)).mono v1B.size))
        have v2K := (Blk.new v1 42 #[.int .i64 0, .int .i64 0, .int .i64 0, .int .i64 0])
        have v2G := v1B.size
        refine hK' _ _ rfl (fr_graft (Fr.of_below v2B _)) ?_
        clear hK' K'
        generalize (v1.alloc (.cells #[.int .i64 0, .int .i64 0, .int .i64 0, .int .i64 0] 42)) = v2 at v2B v2K ⊢
        generalize v1.heap.size = g9 at v2K v2G ⊢
        try simp only [wpSegsE1, wpSegsE0, List.take, List.drop]
        repeat (go_big_quiet_step (fail))
        refine wpQuiet_nil ?_
        first | rw [if_neg (by decide)] | rw [if_pos trivial]
        refine wpHeadF_want rfl (fun K' hK' => ?_)
        go_wp2_with fail
        refine (next_any (w := v2) (rdSd.keep hx1.2.2.2.2 v2B).1 (rdSd.keep hx1.2.2.2.2 v2B).2 p.level f.reading hl).mono ?_
        rintro e v3 ⟨rfl, v3b⟩
        have v3B := Below.trans v2B (v3b.mono v2B.size)
        have v3K := v2K.keep v3b
        refine hK' _ _ rfl (fr_graft (Fr.of_below v3B _)) ?_
        clear hK' K'
        try simp only [wpSegsE1, wpSegsE0, List.take, List.drop]
        repeat (go_big_quiet_step (fail))
        refine wpQuiet_nil ?_
        first | rw [if_neg (by decide)] | rw [if_pos trivial]
        try simp only [wpSegsE1, wpSegsE0, List.take, List.drop]
        repeat (go_big_quiet_step (fail))
        refine wpQuiet_nil ?_
        first | rw [if_neg (by decide)] | rw [if_pos trivial]
        refine wpHeadF_want rfl (fun K' hK' => ?_)
        have zz0 : v3.cell? ⟨g9, 0, none⟩ = some (.int .i64 0) := v3K.cell 0
        have zz1 : v3.cell? ⟨g9, 1, none⟩ = some (.int .i64 0) := v3K.cell 1
        have zz2 : v3.cell? ⟨g9, 2, none⟩ = some (.int .i64 0) := v3K.cell 2
        have zz3 : v3.cell? ⟨g9, 3, none⟩ = some (.int .i64 0) := v3K.cell 3
        have zf : ∀ i, v3.frozen? ⟨g9, i, none⟩ = false := v3K.frozen
        have zl := v3K.lt
        go_wp2_with fail
        have nK : Blk (setRow v3 g9 0 [.int .i64 p.end_, .int .i64 0, .int .i64 (turnS x.modes.l.length p.mode f.mode), .int .i64 (nextS x.shed.down.l x.shed.up.l p.level f.reading)]) g9 42 _ := Blk.row v3K rfl
        have nB := Below.row (g := g9) [.int .i64 p.end_, .int .i64 0, .int .i64 (turnS x.modes.l.length p.mode f.mode), .int .i64 (nextS x.shed.down.l x.shed.up.l p.level f.reading)] 0 v3B v2G
        refine hK' _ _ rfl (fr_graft (Fr.of_below nB _)) ?_
        clear hK' K' zz0 zz1 zz2 zz3 zf
        try simp only [wpSegsE1, List.take, List.drop]
        repeat (go_big_quiet_step (fail))
        refine wpQuiet_nil ?_
        obtain rfl := HQ.out
        go_wp2_with fail
        go_meet
        case rel => exact ⟨g9, rfl, nK, nB, v2G⟩
      · have _d := True.intro
        go_wp2_with fail
        refine (next_any (w := v1) (rdSd.keep hx1.2.2.2.2 v1B).1 (rdSd.keep hx1.2.2.2.2 v1B).2 p.level f.reading hl).mono ?_
        rintro e v2 ⟨rfl, v2b⟩
        have v2B := Below.trans v1B (v2b.mono v1B.size)
        refine hK' _ _ rfl (fr_graft (Fr.of_below v2B _)) ?_
        clear hK' K'
        try simp only [wpSegsE1, wpSegsE0, List.take, List.drop]
        repeat (go_big_quiet_step (fail))
        refine wpQuiet_nil ?_
        first | rw [if_neg (by decide)] | rw [if_pos trivial]
        refine wpHeadF_want rfl (fun K' hK' => ?_)
        go_wp2_with fail
        have v3B := (v2B.trans (((Below.refl v2.heap.size v2).alloc (Nat.le_refl _) (.cells #[.int .i64 0, .int .i64 0, .int .i64 0, .int .i64 0] 42)).mono v2B.size))
        have v3K := (Blk.new v2 42 #[.int .i64 0, .int .i64 0, .int .i64 0, .int .i64 0])
        have v3G := v2B.size
        refine hK' _ _ rfl (fr_graft (Fr.of_below v3B _)) ?_
        clear hK' K'
        generalize (v2.alloc (.cells #[.int .i64 0, .int .i64 0, .int .i64 0, .int .i64 0] 42)) = v3 at v3B v3K ⊢
        generalize v2.heap.size = g9 at v3K v3G ⊢
        try simp only [wpSegsE1, wpSegsE0, List.take, List.drop]
        repeat (go_big_quiet_step (fail))
        refine wpQuiet_nil ?_
        first | rw [if_neg (by decide)] | rw [if_pos trivial]
        refine wpHeadF_want rfl (fun K' hK' => ?_)
        have zz0 : v3.cell? ⟨g9, 0, none⟩ = some (.int .i64 0) := v3K.cell 0
        have zz1 : v3.cell? ⟨g9, 1, none⟩ = some (.int .i64 0) := v3K.cell 1
        have zz2 : v3.cell? ⟨g9, 2, none⟩ = some (.int .i64 0) := v3K.cell 2
        have zz3 : v3.cell? ⟨g9, 3, none⟩ = some (.int .i64 0) := v3K.cell 3
        have zf : ∀ i, v3.frozen? ⟨g9, i, none⟩ = false := v3K.frozen
        have zl := v3K.lt
        go_wp2_with fail
        have nK : Blk (setRow v3 g9 0 [.int .i64 p.end_, .int .i64 0, .int .i64 (turnS x.modes.l.length p.mode f.mode), .int .i64 (nextS x.shed.down.l x.shed.up.l p.level f.reading)]) g9 42 _ := Blk.row v3K rfl
        have nB := Below.row (g := g9) [.int .i64 p.end_, .int .i64 0, .int .i64 (turnS x.modes.l.length p.mode f.mode), .int .i64 (nextS x.shed.down.l x.shed.up.l p.level f.reading)] 0 v3B v3G
        refine hK' _ _ rfl (fr_graft (Fr.of_below nB _)) ?_
        clear hK' K' zz0 zz1 zz2 zz3 zf
        try simp only [wpSegsE1, List.take, List.drop]
        repeat (go_big_quiet_step (fail))
        refine wpQuiet_nil ?_
        obtain rfl := HQ.out
        go_wp2_with fail
        go_meet
        case rel => exact ⟨g9, rfl, nK, nB, v3G⟩
  case rest =>
    obtain ⟨g, rfl, bq, hB, hg⟩ := hcut
    clear f0 f1 p1 p2 p3 c0 c1 c2 c3 c4 c5 c6 c7 c8 c9 c10 c11 c12
    have hBw := hb.trans (hB.mono hb.size)
    have br := b3.below hB b3.lt
    have bc := b1.below hB b1.lt
    have hx2 := rdCf.keep hx1 hB
    have hgr : w.heap.size ≤ w.heap.size + 1 + 1 + 1 := by omega
    have hgrg : w.heap.size + 1 + 1 + 1 < g := by have := b3.lt; omega
    have k2 : wc.cell? ⟨w.heap.size + 1, 2, none⟩ = some (.slice x.modes.A x.modes.l.length x.modes.c) := bc.cell 2
    have hq := HQ.out
    clear HQ b0 b1 b2 b3 bc
    have hm0 : 0 ≤ turnS x.modes.l.length p.mode f.mode := by unfold turnS; split <;> omega
    have hS : stepS x p f = if turnS x.modes.l.length p.mode f.mode < 0 ∨ (x.modes.l.length : Int) ≤ turnS x.modes.l.length p.mode f.mode then none else
      if (atD Md0 x.modes.l (turnS x.modes.l.length p.mode f.mode).toNat).frame < 1 ∨ 1152921504606846976 - p.end_ < (atD Md0 x.modes.l (turnS x.modes.l.length p.mode f.mode).toNat).frame then none else
      some ⟨p.end_, p.end_ + (atD Md0 x.modes.l (turnS x.modes.l.length p.mode f.mode).toNat).frame, turnS x.modes.l.length p.mode f.mode, nextS x.shed.down.l x.shed.up.l p.level f.reading⟩ := rfl
    generalize turnS x.modes.l.length p.mode f.mode = m at hm0 hS hq
    obtain ⟨k, rfl⟩ := Int.eq_ofNat_of_zero_le hm0
    rw [Int.toNat_natCast] at hS
    subst hq
    simp only at bq
    generalize nextS x.shed.down.l x.shed.up.l p.level f.reading = lv at bq hS
    have q0 : wc.cell? ⟨g, 0, none⟩ = some (.int .i64 p.end_) := bq.cell 0
    have q1 : wc.cell? ⟨g, 1, none⟩ = some (.int .i64 0) := bq.cell 1
    have q2 : wc.cell? ⟨g, 2, none⟩ = some (.int .i64 (k : Int)) := bq.cell 2
    have q3 : wc.cell? ⟨g, 3, none⟩ = some (.int .i64 lv) := bq.cell 3
    have fq : ∀ i, wc.frozen? ⟨g, i, none⟩ = false := bq.frozen
    have fr : ∀ i, wc.frozen? ⟨w.heap.size + 1 + 1 + 1, i, none⟩ = false := br.frozen
    have r0 : wc.cell? ⟨w.heap.size + 1 + 1 + 1, 0, none⟩ = some (.int .i64 0) := br.cell 0
    have r1 : wc.cell? ⟨w.heap.size + 1 + 1 + 1, 1, none⟩ = some (.int .i64 0) := br.cell 1
    have r2 : wc.cell? ⟨w.heap.size + 1 + 1 + 1, 2, none⟩ = some (.int .i64 0) := br.cell 2
    have r3 : wc.cell? ⟨w.heap.size + 1 + 1 + 1, 3, none⟩ = some (.int .i64 0) := br.cell 3
    have hlq := bq.lt
    have hlr := br.lt
    clear hx1 hb hB hg hs l0 l1 l2
    generalize hgg : w.heap.size + 1 + 1 + 1 = gr at hgr hgrg br fr r0 r1 r2 r3 hlr ⊢
    generalize w.heap.size + 1 = gc at k2 ⊢
    clear hgg
    by_cases hk : k < x.modes.l.length
    · obtain ⟨mb, mo, hA, hmb, hmc⟩ := (rdMds.keep hx2.2.2.1 (Below.refl _ _)).1.at_ Md0 hk
      have m0 : wc.cell? ⟨mb, mo + k * 2, none⟩ = some (.int .i64 (atD Md0 x.modes.l k).frame) := hmc 0 _ rfl
      rw [hA] at k2
      clear hA hmc
      rw [if_neg (by omega)] at hS
      generalize (atD Md0 x.modes.l k).frame = long at m0 hS
      by_cases h1 : long < 1
      · rw [if_pos (by omega)] at hS
        have HN : Hid (nextP x p f = (Pg0, false)) := by unfold Hid nextP; rw [hS]
        clear hS
        go_wp2_with fail
        have rK : Blk (setRow wc gr 0 [.int .i64 0, .int .i64 0, .int .i64 0, .int .i64 0]) gr 42 _ := Blk.row br rfl
        have rB := Below.row (g := gr) [.int .i64 0, .int .i64 0, .int .i64 0, .int .i64 0] 0 hBw hgr
        unfold setRow at rK rB
        unfold setRow at rK rB
        unfold setRow at rK rB
        unfold setRow at rK rB
        unfold setRow at rK rB
        generalize (((wc.setCell ⟨gr, 0, none⟩ (.int .i64 0)).setCell ⟨gr, 1, none⟩ (.int .i64 0)).setCell ⟨gr, 2, none⟩ (.int .i64 0)).setCell ⟨gr, 3, none⟩ (.int .i64 0) = w9 at rK rB ⊢
        have y0 : w9.cell? ⟨gr, 0, none⟩ = some (.int .i64 0) := rK.cell 0
        have y1 : w9.cell? ⟨gr, 1, none⟩ = some (.int .i64 0) := rK.cell 1
        have y2 : w9.cell? ⟨gr, 2, none⟩ = some (.int .i64 0) := rK.cell 2
        have y3 : w9.cell? ⟨gr, 3, none⟩ = some (.int .i64 0) := rK.cell 3
        refine bodyPost_ret (v := .tuple #[.agg #[.int .i64 0, .int .i64 0, .int .i64 0, .int .i64 0], .bool false]) (by simp [results, Try.results23, go_sem, y0, y1, y2, y3]) rfl ⟨?_, rB⟩
        rw [HN.out]
        rfl
      · by_cases h2 : 1152921504606846976 - p.end_ < long
        · rw [if_pos (by omega)] at hS
          have HN : Hid (nextP x p f = (Pg0, false)) := by unfold Hid nextP; rw [hS]
          clear hS
          go_wp2_with fail
          have rK : Blk (setRow wc gr 0 [.int .i64 0, .int .i64 0, .int .i64 0, .int .i64 0]) gr 42 _ := Blk.row br rfl
          have rB := Below.row (g := gr) [.int .i64 0, .int .i64 0, .int .i64 0, .int .i64 0] 0 hBw hgr
          unfold setRow at rK rB
          unfold setRow at rK rB
          unfold setRow at rK rB
          unfold setRow at rK rB
          unfold setRow at rK rB
          generalize (((wc.setCell ⟨gr, 0, none⟩ (.int .i64 0)).setCell ⟨gr, 1, none⟩ (.int .i64 0)).setCell ⟨gr, 2, none⟩ (.int .i64 0)).setCell ⟨gr, 3, none⟩ (.int .i64 0) = w9 at rK rB ⊢
          have y0 : w9.cell? ⟨gr, 0, none⟩ = some (.int .i64 0) := rK.cell 0
          have y1 : w9.cell? ⟨gr, 1, none⟩ = some (.int .i64 0) := rK.cell 1
          have y2 : w9.cell? ⟨gr, 2, none⟩ = some (.int .i64 0) := rK.cell 2
          have y3 : w9.cell? ⟨gr, 3, none⟩ = some (.int .i64 0) := rK.cell 3
          refine bodyPost_ret (v := .tuple #[.agg #[.int .i64 0, .int .i64 0, .int .i64 0, .int .i64 0], .bool false]) (by simp [results, Try.results23, go_sem, y0, y1, y2, y3]) rfl ⟨?_, rB⟩
          rw [HN.out]
          rfl
        · rw [if_neg (by omega)] at hS
          have HN : Hid (nextP x p f = (⟨p.end_, p.end_ + long, (k : Int), lv⟩, true)) := by unfold Hid nextP; rw [hS]
          clear hS
          go_wp2_with fail
          have sB := hBw.setCell (p := ⟨g, 1, none⟩) (by simp; omega) (.int .i64 (p.end_ + long))
          have sK : Blk (wc.setCell ⟨g, 1, none⟩ (.int .i64 (p.end_ + long))) gr 42 #[.int .i64 0, .int .i64 0, .int .i64 0, .int .i64 0] := br.far (p := ⟨g, 1, none⟩) (by simp; omega) _
          have rK : Blk (setRow (wc.setCell ⟨g, 1, none⟩ (.int .i64 (p.end_ + long))) gr 0 [.int .i64 p.end_, .int .i64 (p.end_ + long), .int .i64 (k : Int), .int .i64 lv]) gr 42 _ := Blk.row sK rfl
          have rB := Below.row (g := gr) [.int .i64 p.end_, .int .i64 (p.end_ + long), .int .i64 (k : Int), .int .i64 lv] 0 sB hgr
          unfold setRow at rK rB
          unfold setRow at rK rB
          unfold setRow at rK rB
          unfold setRow at rK rB
          unfold setRow at rK rB
          generalize ((((wc.setCell ⟨g, 1, none⟩ (.int .i64 (p.end_ + long))).setCell ⟨gr, 0, none⟩ (.int .i64 p.end_)).setCell ⟨gr, 1, none⟩ (.int .i64 (p.end_ + long))).setCell ⟨gr, 2, none⟩ (.int .i64 (k : Int))).setCell ⟨gr, 3, none⟩ (.int .i64 lv) = w9 at rK rB ⊢
          have y0 : w9.cell? ⟨gr, 0, none⟩ = some (.int .i64 p.end_) := rK.cell 0
          have y1 : w9.cell? ⟨gr, 1, none⟩ = some (.int .i64 (p.end_ + long)) := rK.cell 1
          have y2 : w9.cell? ⟨gr, 2, none⟩ = some (.int .i64 (k : Int)) := rK.cell 2
          have y3 : w9.cell? ⟨gr, 3, none⟩ = some (.int .i64 lv) := rK.cell 3
          refine bodyPost_ret (v := .tuple #[.agg #[.int .i64 p.end_, .int .i64 (p.end_ + long), .int .i64 (k : Int), .int .i64 lv], .bool true]) (by simp [results, Try.results23, go_sem, y0, y1, y2, y3]) rfl ⟨?_, rB⟩
          rw [HN.out]
    · rw [if_pos (by omega)] at hS
      have HN : Hid (nextP x p f = (Pg0, false)) := by unfold Hid nextP; rw [hS]
      clear hS
      go_wp2_with fail
      have rK : Blk (setRow wc gr 0 [.int .i64 0, .int .i64 0, .int .i64 0, .int .i64 0]) gr 42 _ := Blk.row br rfl
      have rB := Below.row (g := gr) [.int .i64 0, .int .i64 0, .int .i64 0, .int .i64 0] 0 hBw hgr
      unfold setRow at rK rB
      unfold setRow at rK rB
      unfold setRow at rK rB
      unfold setRow at rK rB
      unfold setRow at rK rB
      generalize (((wc.setCell ⟨gr, 0, none⟩ (.int .i64 0)).setCell ⟨gr, 1, none⟩ (.int .i64 0)).setCell ⟨gr, 2, none⟩ (.int .i64 0)).setCell ⟨gr, 3, none⟩ (.int .i64 0) = w9 at rK rB ⊢
      have y0 : w9.cell? ⟨gr, 0, none⟩ = some (.int .i64 0) := rK.cell 0
      have y1 : w9.cell? ⟨gr, 1, none⟩ = some (.int .i64 0) := rK.cell 1
      have y2 : w9.cell? ⟨gr, 2, none⟩ = some (.int .i64 0) := rK.cell 2
      have y3 : w9.cell? ⟨gr, 3, none⟩ = some (.int .i64 0) := rK.cell 3
      refine bodyPost_ret (v := .tuple #[.agg #[.int .i64 0, .int .i64 0, .int .i64 0, .int .i64 0], .bool false]) (by simp [results, Try.results23, go_sem, y0, y1, y2, y3]) rfl ⟨?_, rB⟩
      rw [HN.out]
      rfl
end Go.Proofs.Ytiglabknaldinaa
