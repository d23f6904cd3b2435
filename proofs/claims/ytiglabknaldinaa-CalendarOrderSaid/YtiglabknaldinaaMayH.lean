/- The document's Check and May: they return something; where May says yes all modes are good. -/
import Derived.Test.YtiglabknaldinaaMayB
import Derived.Test.YtiglabknaldinaaMayF
import Derived.Test.YtiglabknaldinaaMayG
namespace Go.Proofs.Ytiglabknaldinaa
open Go.RowKit
def CfGood (x : Cf) : Prop := 1 ≤ x.modes.l.length ∧ x.modes.l.length ≤ 4 ∧ ∀ k, k < x.modes.l.length → MdGood (atD Md0 x.modes.l k)
def CheckP (x : Cf) (w : World) (e : Ending) (w' : World) : Prop := ∃ n z : Int, e = .returned (.tuple #[.int .i64 n, .int .i64 z]) ∧ (n = 0 → CfGood x) ∧ Below w.heap.size w w'
theorem CheckP.mk {x : Cf} {w w' : World} {e : Ending} (n z : Int) (h1 : e = .returned (.tuple #[.int .i64 n, .int .i64 z])) (h2 : n = 0 → CfGood x) (h3 : Below w.heap.size w w') : CheckP x w e w' := ⟨n, z, h1, h2, h3⟩
def MayP (x : Cf) (w : World) (e : Ending) (w' : World) : Prop := ∃ r : Bool, e = .returned (.bool r) ∧ (r = true → CfGood x) ∧ Below w.heap.size w w'
theorem MayP.mk {x : Cf} {w w' : World} {e : Ending} (r : Bool) (h1 : e = .returned (.bool r)) (h2 : r = true → CfGood x) (h3 : Below w.heap.size w w') : MayP x w e w' := ⟨r, h1, h2, h3⟩
def CapI (l : List Pt) (w0 : World) (i : Value) (wr : World) : Prop := ∃ k : Nat, k ≤ l.length ∧ i = .int .i64 (k : Int) ∧ Below w0.heap.size w0 wr ∧ ∀ m, m < k → 1 ≤ (atD Pt0 l m).cap ∧ (atD Pt0 l m).cap ≤ 1000000000
def MdI (l : List Md) (w0 : World) (i : Value) (wr : World) : Prop := ∃ k : Nat, k ≤ l.length ∧ i = .int .i64 (k : Int) ∧ Below w0.heap.size w0 wr ∧ ∀ m, m < k → MdGood (atD Md0 l m)
set_option maxRecDepth 100000 in
set_option maxHeartbeats 12800000 in
theorem check_any {w : World} {x : Cf} (hx : rdCf.ok w x) : Calls Try.prog 20 #[.agg #[.slice x.parts.A x.parts.l.length x.parts.c, .slice x.chans.A x.chans.l.length x.chans.c, .slice x.modes.A x.modes.l.length x.modes.c, .slice x.pw.levels.A x.pw.levels.l.length x.pw.levels.c, .slice x.pw.naps.A x.pw.naps.l.length x.pw.naps.c, .int .i64 x.pw.sw, .int .i64 x.pw.idle, .int .i64 x.pw.change, .int .i64 x.pw.quant, .int .i64 x.pw.slow, .int .i64 x.pw.ppm, .slice x.shed.down.A x.shed.down.l.length x.shed.down.c, .slice x.shed.up.A x.shed.up.l.length x.shed.up.c]] w (CheckP x w) := by
  have n0 := hx.1.1.len
  have n1 := hx.2.1.1.len
  have n2 := hx.2.2.1.1.len
  have hb1 := (Below.refl w.heap.size w).alloc (Nat.le_refl _) (.cells #[.slice x.parts.A x.parts.l.length x.parts.c, .slice x.chans.A x.chans.l.length x.chans.c, .slice x.modes.A x.modes.l.length x.modes.c, .slice x.pw.levels.A x.pw.levels.l.length x.pw.levels.c, .slice x.pw.naps.A x.pw.naps.l.length x.pw.naps.c, .int .i64 x.pw.sw, .int .i64 x.pw.idle, .int .i64 x.pw.change, .int .i64 x.pw.quant, .int .i64 x.pw.slow, .int .i64 x.pw.ppm, .slice x.shed.down.A x.shed.down.l.length x.shed.down.c, .slice x.shed.up.A x.shed.up.l.length x.shed.up.c] 33)
  have k1 := Blk.new w 33 #[.slice x.parts.A x.parts.l.length x.parts.c, .slice x.chans.A x.chans.l.length x.chans.c, .slice x.modes.A x.modes.l.length x.modes.c, .slice x.pw.levels.A x.pw.levels.l.length x.pw.levels.c, .slice x.pw.naps.A x.pw.naps.l.length x.pw.naps.c, .int .i64 x.pw.sw, .int .i64 x.pw.idle, .int .i64 x.pw.change, .int .i64 x.pw.quant, .int .i64 x.pw.slow, .int .i64 x.pw.ppm, .slice x.shed.down.A x.shed.down.l.length x.shed.down.c, .slice x.shed.up.A x.shed.up.l.length x.shed.up.c]
  go_enter Try.func20, Try.ntmps20
  go_upto_region 1 with fail
  generalize w.alloc (.cells #[.slice x.parts.A x.parts.l.length x.parts.c, .slice x.chans.A x.chans.l.length x.chans.c, .slice x.modes.A x.modes.l.length x.modes.c, .slice x.pw.levels.A x.pw.levels.l.length x.pw.levels.c, .slice x.pw.naps.A x.pw.naps.l.length x.pw.naps.c, .int .i64 x.pw.sw, .int .i64 x.pw.idle, .int .i64 x.pw.change, .int .i64 x.pw.quant, .int .i64 x.pw.slow, .int .i64 x.pw.ppm, .slice x.shed.down.A x.shed.down.l.length x.shed.down.c, .slice x.shed.up.A x.shed.up.l.length x.shed.up.c] 33) = w1 at hb1 k1 ⊢
  obtain ⟨gx, hgx⟩ : ∃ gx, gx = w.heap.size := ⟨_, rfl⟩
  rw [← hgx] at k1 ⊢
  clear hgx
  have lx := k1.lt
  have c0 : w1.cell? ⟨gx, 0, none⟩ = some (.slice x.parts.A x.parts.l.length x.parts.c) := k1.cell 0
  go_wp2_with fail
  refine (out_any _ _ _ _).mono ?_
  rintro e _ ⟨b, rfl, rfl, hP⟩
  cases b with
  | true =>
    go_wp2_with fail
    go_ret2
    exact CheckP.mk _ _ rfl (fun h => by cases h) hb1
  | false =>
    obtain ⟨hP1, hP2⟩ := hP rfl
    clear hP
    go_wp2_with fail
    go_loopw [4, 5] (fun i _ wr => CapI x.parts.l w1 i wr) (fun i _ _ => x.parts.l.length - (intOf i).toNat)
    case atStart => exact ⟨0, Nat.zero_le _, rfl, Below.refl _ _, fun m hm => absurd hm (Nat.not_lt_zero m)⟩
    case round =>
      clear c0 lx
      obtain ⟨k, hk, rfl, hbw, hC⟩ := hrel
      have HC := Lib.hid hC
      clear hC
      obtain ⟨wa, hwa⟩ : ∃ w : World, w = wr := ⟨_, rfl⟩
      subst hwa
      have ka := k1.keep hbw
      have hBa := hb1.trans (hbw.mono hb1.size)
      have lx := ka.lt
      by_cases hlt : k < x.parts.l.length
      · have _d := True.intro
        obtain ⟨sb, so, hA, hsb, hsc⟩ := (rdPts.keep hx.1 hBa).1.at_ Pt0 hlt
        have hok := (rdPts.keep hx.1 hBa).2 _ (atD_mem (d := Pt0) hlt)
        have HG : Hid (∀ m, m < k + 1 → m ≠ k → 1 ≤ (atD Pt0 x.parts.l m).cap ∧ (atD Pt0 x.parts.l m).cap ≤ 1000000000) := Lib.hid (fun m hm hn => HC.out m (by omega))
        obtain ⟨y, hy⟩ : ∃ y, y = atD Pt0 x.parts.l k := ⟨_, rfl⟩
        rw [← hy] at hok hsc
        have s0 : wa.cell? ⟨sb, so + k * 11, none⟩ = some y.regs.v := hsc 0 _ rfl
        have s1 : wa.cell? ⟨sb, so + k * 11 + 1, none⟩ = some y.procs.v := hsc 1 _ rfl
        have s2 : wa.cell? ⟨sb, so + k * 11 + 2, none⟩ = some y.ports.v := hsc 2 _ rfl
        have s3 : wa.cell? ⟨sb, so + k * 11 + 3, none⟩ = some y.sems.v := hsc 3 _ rfl
        have s4 : wa.cell? ⟨sb, so + k * 11 + 4, none⟩ = some (.int .i64 y.flags) := hsc 4 _ rfl
        have s5 : wa.cell? ⟨sb, so + k * 11 + 5, none⟩ = some y.pools.v := hsc 5 _ rfl
        have s6 : wa.cell? ⟨sb, so + k * 11 + 6, none⟩ = some y.slates.v := hsc 6 _ rfl
        have s7 : wa.cell? ⟨sb, so + k * 11 + 7, none⟩ = some (.int .i64 y.cap) := hsc 7 _ rfl
        have s8 : wa.cell? ⟨sb, so + k * 11 + 8, none⟩ = some (.int .i64 y.bud) := hsc 8 _ rfl
        have s9 : wa.cell? ⟨sb, so + k * 11 + 9, none⟩ = some (.int .i64 y.lad) := hsc 9 _ rfl
        have s10 : wa.cell? ⟨sb, so + k * 11 + 10, none⟩ = some y.acts.v := hsc 10 _ rfl
        simp only [Hd.v] at s0 s1 s2 s3 s5 s6 s10
        have HY := Lib.hid hy
        clear hy hsc
        have c0 : wa.cell? ⟨gx, 0, none⟩ = some (.slice (some ⟨sb, so, none⟩) x.parts.l.length x.parts.c) := by rw [← hA]; exact ka.cell 0
        clear hA
        go_wp2_with fail
        refine (part_any hok).mono ?_
        rintro e w2 ⟨z, rfl, hz, hb2⟩
        have hbw2 := hbw.trans (hb2.mono hbw.size)
        have hB2 := hb1.trans (hbw2.mono hb1.size)
        by_cases h0 : z = 0
        · have HZ := Lib.hid (hz h0)
          subst h0
          clear hz
          go_wp2_with fail
          exact ⟨⟨k + 1, by omega, by go_num, hbw2, fun m hm => by
            by_cases e : m = k
            · subst e; rw [← HY.out]; exact HZ.out
            · exact HG.out m hm e⟩, by simp [intOf]; omega⟩
        · have h0' : (z != 0) = true := by simpa using h0
          clear hz
          go_wp2_with fail
          go_ret2
          exact CheckP.mk _ _ rfl (fun h => absurd h h0) hB2
      · obtain rfl : k = x.parts.l.length := by omega
        have c0 : wa.cell? ⟨gx, 0, none⟩ = some (.slice x.parts.A x.parts.l.length x.parts.c) := ka.cell 0
        have c3 : wa.cell? ⟨gx, 3, none⟩ = some (.slice x.pw.levels.A x.pw.levels.l.length x.pw.levels.c) := ka.cell 3
        have c4 : wa.cell? ⟨gx, 4, none⟩ = some (.slice x.pw.naps.A x.pw.naps.l.length x.pw.naps.c) := ka.cell 4
        have c5 : wa.cell? ⟨gx, 5, none⟩ = some (.int .i64 x.pw.sw) := ka.cell 5
        have c6 : wa.cell? ⟨gx, 6, none⟩ = some (.int .i64 x.pw.idle) := ka.cell 6
        have c7 : wa.cell? ⟨gx, 7, none⟩ = some (.int .i64 x.pw.change) := ka.cell 7
        have c8 : wa.cell? ⟨gx, 8, none⟩ = some (.int .i64 x.pw.quant) := ka.cell 8
        have c9 : wa.cell? ⟨gx, 9, none⟩ = some (.int .i64 x.pw.slow) := ka.cell 9
        have c10 : wa.cell? ⟨gx, 10, none⟩ = some (.int .i64 x.pw.ppm) := ka.cell 10
        go_wp2_with fail
        refine (power_any (rdPw.keep hx.2.2.2.1 hBa)).mono ?_
        rintro e w2 ⟨z, zz, rfl, hb2⟩
        have hB2 := hBa.trans (hb2.mono hBa.size)
        have kx := ka.keep hb2
        clear c0 c3 c4 c5 c6 c7 c8 c9 c10 lx
        have lx := kx.lt
        by_cases h0 : z = 0
        rotate_left
        · have h0' : (z != 0) = true := by simpa using h0
          go_wp2_with fail
          go_ret2
          exact CheckP.mk _ _ rfl (fun h => absurd h h0) hB2
        subst h0
        have c1 : w2.cell? ⟨gx, 1, none⟩ = some (.slice x.chans.A x.chans.l.length x.chans.c) := kx.cell 1
        by_cases q2 : (16 : Int) < x.chans.l.length
        · have q2' : decide ((16 : Int) < x.chans.l.length) = true := decide_eq_true q2
          clear q2
          go_wp2_with fail
          go_ret2
          exact CheckP.mk _ _ rfl (fun h => by cases h) hB2
        have q2' : decide ((16 : Int) < x.chans.l.length) = false := by simpa using q2
        clear q2
        go_wp2_with fail
        go_loopw [8] (fun i wr => ∃ (k : Nat), k ≤ x.chans.l.length ∧ i = .int .i64 (k : Int) ∧ Below w2.heap.size w2 wr) (fun i _ => x.chans.l.length - (intOf i).toNat)
        case atStart => exact ⟨0, Nat.zero_le _, rfl, Below.refl _ _⟩
        case round =>
          clear c1 lx q2'
          obtain ⟨k, hk, rfl, hbv⟩ := hrel
          obtain ⟨wv, hwv⟩ : ∃ w : World, w = wr := ⟨_, rfl⟩
          subst hwv
          have kv := kx.keep hbv
          have hBv := hB2.trans (hbv.mono hB2.size)
          have lx := kv.lt
          have c0 : wv.cell? ⟨gx, 0, none⟩ = some (.slice x.parts.A x.parts.l.length x.parts.c) := kv.cell 0
          have c1 : wv.cell? ⟨gx, 1, none⟩ = some (.slice x.chans.A x.chans.l.length x.chans.c) := kv.cell 1
          have c2 : wv.cell? ⟨gx, 2, none⟩ = some (.slice x.modes.A x.modes.l.length x.modes.c) := kv.cell 2
          have c3 : wv.cell? ⟨gx, 3, none⟩ = some (.slice x.pw.levels.A x.pw.levels.l.length x.pw.levels.c) := kv.cell 3
          have c4 : wv.cell? ⟨gx, 4, none⟩ = some (.slice x.pw.naps.A x.pw.naps.l.length x.pw.naps.c) := kv.cell 4
          have c5 : wv.cell? ⟨gx, 5, none⟩ = some (.int .i64 x.pw.sw) := kv.cell 5
          have c6 : wv.cell? ⟨gx, 6, none⟩ = some (.int .i64 x.pw.idle) := kv.cell 6
          have c7 : wv.cell? ⟨gx, 7, none⟩ = some (.int .i64 x.pw.change) := kv.cell 7
          have c8 : wv.cell? ⟨gx, 8, none⟩ = some (.int .i64 x.pw.quant) := kv.cell 8
          have c9 : wv.cell? ⟨gx, 9, none⟩ = some (.int .i64 x.pw.slow) := kv.cell 9
          have c10 : wv.cell? ⟨gx, 10, none⟩ = some (.int .i64 x.pw.ppm) := kv.cell 10
          have c11 : wv.cell? ⟨gx, 11, none⟩ = some (.slice x.shed.down.A x.shed.down.l.length x.shed.down.c) := kv.cell 11
          have c12 : wv.cell? ⟨gx, 12, none⟩ = some (.slice x.shed.up.A x.shed.up.l.length x.shed.up.c) := kv.cell 12
          by_cases hlt : k < x.chans.l.length
          · have _d := True.intro
            go_wp2_with fail
            refine (channel_any (rdCf.keep hx hBv) _).mono ?_
            rintro e w3 ⟨r, rfl, hb3⟩
            have hbv3 := hbv.trans (hb3.mono hbv.size)
            have hB3 := hB2.trans (hbv3.mono hB2.size)
            cases r with
            | false =>
              go_wp2_with fail
              go_ret2
              exact CheckP.mk _ _ rfl (fun h => by cases h) hB3
            | true =>
              go_wp2_with fail
              exact ⟨⟨k + 1, by omega, by go_num, hbv3⟩, by simp [intOf]; omega⟩
          · obtain rfl : k = x.chans.l.length := by omega
            go_wp2_with fail
            refine (out_any _ _ _ _).mono ?_
            rintro e _ ⟨b, rfl, rfl, hM⟩
            cases b with
            | true =>
              go_wp2_with fail
              go_ret2
              exact CheckP.mk _ _ rfl (fun h => by cases h) hBv
            | false =>
              obtain ⟨hM1, hM2⟩ := hM rfl
              clear hM
              go_wp2_with fail
              obtain ⟨wo, hwo⟩ : ∃ wo : World, wo = wv := ⟨_, rfl⟩
              go_loopw [9, 10] (fun i _ wr => MdI x.modes.l wo i wr) (fun i _ _ => x.modes.l.length - (intOf i).toNat)
              case atStart => exact ⟨0, Nat.zero_le _, rfl, by rw [hwo]; exact Below.refl _ _, fun m hm => absurd hm (Nat.not_lt_zero m)⟩
              case round =>
                subst hwo
                clear c0 c1 c2 c3 c4 c5 c6 c7 c8 c9 c10 c11 c12 lx
                obtain ⟨k, hk, rfl, hbu, hG⟩ := hrel
                have HG := Lib.hid hG
                clear hG
                obtain ⟨wu, hwu⟩ : ∃ w : World, w = wr := ⟨_, rfl⟩
                subst hwu
                have ku := kv.keep hbu
                have hBu := hBv.trans (hbu.mono hBv.size)
                have lx := ku.lt
                have c0 : wu.cell? ⟨gx, 0, none⟩ = some (.slice x.parts.A x.parts.l.length x.parts.c) := ku.cell 0
                have c1 : wu.cell? ⟨gx, 1, none⟩ = some (.slice x.chans.A x.chans.l.length x.chans.c) := ku.cell 1
                have c2 : wu.cell? ⟨gx, 2, none⟩ = some (.slice x.modes.A x.modes.l.length x.modes.c) := ku.cell 2
                have c3 : wu.cell? ⟨gx, 3, none⟩ = some (.slice x.pw.levels.A x.pw.levels.l.length x.pw.levels.c) := ku.cell 3
                have c4 : wu.cell? ⟨gx, 4, none⟩ = some (.slice x.pw.naps.A x.pw.naps.l.length x.pw.naps.c) := ku.cell 4
                have c5 : wu.cell? ⟨gx, 5, none⟩ = some (.int .i64 x.pw.sw) := ku.cell 5
                have c6 : wu.cell? ⟨gx, 6, none⟩ = some (.int .i64 x.pw.idle) := ku.cell 6
                have c7 : wu.cell? ⟨gx, 7, none⟩ = some (.int .i64 x.pw.change) := ku.cell 7
                have c8 : wu.cell? ⟨gx, 8, none⟩ = some (.int .i64 x.pw.quant) := ku.cell 8
                have c9 : wu.cell? ⟨gx, 9, none⟩ = some (.int .i64 x.pw.slow) := ku.cell 9
                have c10 : wu.cell? ⟨gx, 10, none⟩ = some (.int .i64 x.pw.ppm) := ku.cell 10
                have c11 : wu.cell? ⟨gx, 11, none⟩ = some (.slice x.shed.down.A x.shed.down.l.length x.shed.down.c) := ku.cell 11
                have c12 : wu.cell? ⟨gx, 12, none⟩ = some (.slice x.shed.up.A x.shed.up.l.length x.shed.up.c) := ku.cell 12
                by_cases hlt : k < x.modes.l.length
                · have _d := True.intro
                  go_wp2_with fail
                  refine (mode_any (rdCf.keep hx hBu) HC.out hlt).mono ?_
                  rintro e w3 ⟨z, rfl, hz, hb3⟩
                  have hbu3 := hbu.trans (hb3.mono hbu.size)
                  have hB3 := hBv.trans (hbu3.mono hBv.size)
                  by_cases h0 : z = 0
                  · have HZ := Lib.hid (hz h0)
                    subst h0
                    clear hz
                    go_wp2_with fail
                    exact ⟨⟨k + 1, by omega, by go_num, hbu3, fun m hm => by
                      by_cases e : m = k
                      · subst e; exact HZ.out
                      · exact HG.out m (by omega)⟩, by simp [intOf]; omega⟩
                  · have h0' : (z != 0) = true := by simpa using h0
                    clear hz
                    go_wp2_with fail
                    go_ret2
                    exact CheckP.mk _ _ rfl (fun h => absurd h h0) hB3
                · obtain rfl : k = x.modes.l.length := by omega
                  have HF : Hid (CfGood x) := Lib.hid ⟨by omega, by omega, HG.out⟩
                  go_wp2_with fail
                  refine (shed_any (rdSd.keep hx.2.2.2.2 hBu)).mono ?_
                  rintro e w3 ⟨z, zz, rfl, hb3⟩
                  have hB3 := hBu.trans (hb3.mono hBu.size)
                  go_wp2_with fail
                  go_ret2
                  exact CheckP.mk _ _ rfl (fun _ => HF.out) hB3
set_option maxRecDepth 100000 in
set_option maxHeartbeats 12800000 in
theorem may_any {w : World} {x : Cf} (hx : rdCf.ok w x) : Calls Try.prog 11 #[.agg #[.slice x.parts.A x.parts.l.length x.parts.c, .slice x.chans.A x.chans.l.length x.chans.c, .slice x.modes.A x.modes.l.length x.modes.c, .slice x.pw.levels.A x.pw.levels.l.length x.pw.levels.c, .slice x.pw.naps.A x.pw.naps.l.length x.pw.naps.c, .int .i64 x.pw.sw, .int .i64 x.pw.idle, .int .i64 x.pw.change, .int .i64 x.pw.quant, .int .i64 x.pw.slow, .int .i64 x.pw.ppm, .slice x.shed.down.A x.shed.down.l.length x.shed.down.c, .slice x.shed.up.A x.shed.up.l.length x.shed.up.c]] w (MayP x w) := by
  have hb1 := (Below.refl w.heap.size w).alloc (Nat.le_refl _) (.cells #[.slice x.parts.A x.parts.l.length x.parts.c, .slice x.chans.A x.chans.l.length x.chans.c, .slice x.modes.A x.modes.l.length x.modes.c, .slice x.pw.levels.A x.pw.levels.l.length x.pw.levels.c, .slice x.pw.naps.A x.pw.naps.l.length x.pw.naps.c, .int .i64 x.pw.sw, .int .i64 x.pw.idle, .int .i64 x.pw.change, .int .i64 x.pw.quant, .int .i64 x.pw.slow, .int .i64 x.pw.ppm, .slice x.shed.down.A x.shed.down.l.length x.shed.down.c, .slice x.shed.up.A x.shed.up.l.length x.shed.up.c] 33)
  have k1 := Blk.new w 33 #[.slice x.parts.A x.parts.l.length x.parts.c, .slice x.chans.A x.chans.l.length x.chans.c, .slice x.modes.A x.modes.l.length x.modes.c, .slice x.pw.levels.A x.pw.levels.l.length x.pw.levels.c, .slice x.pw.naps.A x.pw.naps.l.length x.pw.naps.c, .int .i64 x.pw.sw, .int .i64 x.pw.idle, .int .i64 x.pw.change, .int .i64 x.pw.quant, .int .i64 x.pw.slow, .int .i64 x.pw.ppm, .slice x.shed.down.A x.shed.down.l.length x.shed.down.c, .slice x.shed.up.A x.shed.up.l.length x.shed.up.c]
  go_enter Try.func11, Try.ntmps11
  go_upto_region 1 with fail
  generalize w.alloc (.cells #[.slice x.parts.A x.parts.l.length x.parts.c, .slice x.chans.A x.chans.l.length x.chans.c, .slice x.modes.A x.modes.l.length x.modes.c, .slice x.pw.levels.A x.pw.levels.l.length x.pw.levels.c, .slice x.pw.naps.A x.pw.naps.l.length x.pw.naps.c, .int .i64 x.pw.sw, .int .i64 x.pw.idle, .int .i64 x.pw.change, .int .i64 x.pw.quant, .int .i64 x.pw.slow, .int .i64 x.pw.ppm, .slice x.shed.down.A x.shed.down.l.length x.shed.down.c, .slice x.shed.up.A x.shed.up.l.length x.shed.up.c] 33) = w1 at hb1 k1 ⊢
  obtain ⟨gx, hgx⟩ : ∃ gx, gx = w.heap.size := ⟨_, rfl⟩
  rw [← hgx] at k1 ⊢
  clear hgx
  have lx := k1.lt
  have c0 : w1.cell? ⟨gx, 0, none⟩ = some (.slice x.parts.A x.parts.l.length x.parts.c) := k1.cell 0
  have c1 : w1.cell? ⟨gx, 1, none⟩ = some (.slice x.chans.A x.chans.l.length x.chans.c) := k1.cell 1
  have c2 : w1.cell? ⟨gx, 2, none⟩ = some (.slice x.modes.A x.modes.l.length x.modes.c) := k1.cell 2
  have c3 : w1.cell? ⟨gx, 3, none⟩ = some (.slice x.pw.levels.A x.pw.levels.l.length x.pw.levels.c) := k1.cell 3
  have c4 : w1.cell? ⟨gx, 4, none⟩ = some (.slice x.pw.naps.A x.pw.naps.l.length x.pw.naps.c) := k1.cell 4
  have c5 : w1.cell? ⟨gx, 5, none⟩ = some (.int .i64 x.pw.sw) := k1.cell 5
  have c6 : w1.cell? ⟨gx, 6, none⟩ = some (.int .i64 x.pw.idle) := k1.cell 6
  have c7 : w1.cell? ⟨gx, 7, none⟩ = some (.int .i64 x.pw.change) := k1.cell 7
  have c8 : w1.cell? ⟨gx, 8, none⟩ = some (.int .i64 x.pw.quant) := k1.cell 8
  have c9 : w1.cell? ⟨gx, 9, none⟩ = some (.int .i64 x.pw.slow) := k1.cell 9
  have c10 : w1.cell? ⟨gx, 10, none⟩ = some (.int .i64 x.pw.ppm) := k1.cell 10
  have c11 : w1.cell? ⟨gx, 11, none⟩ = some (.slice x.shed.down.A x.shed.down.l.length x.shed.down.c) := k1.cell 11
  have c12 : w1.cell? ⟨gx, 12, none⟩ = some (.slice x.shed.up.A x.shed.up.l.length x.shed.up.c) := k1.cell 12
  go_wp2_with fail
  refine (check_any (rdCf.keep hx hb1)).mono ?_
  rintro e w2 ⟨n, z, rfl, hn, hb2⟩
  have hB2 := hb1.trans (hb2.mono hb1.size)
  by_cases h0 : n = 0
  · have HZ := Lib.hid (hn h0)
    subst h0
    clear hn
    go_wp2_with fail
    go_ret
    exact MayP.mk true rfl (fun _ => HZ.out) hB2
  · have h0' : (n == 0) = false := by simpa using h0
    clear hn
    go_wp2_with fail
    go_ret
    exact MayP.mk false rfl (fun h => by cases h) hB2
end Go.Proofs.Ytiglabknaldinaa
