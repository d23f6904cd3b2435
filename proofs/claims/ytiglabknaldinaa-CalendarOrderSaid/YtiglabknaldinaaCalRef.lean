/- The walks of the document's Pages and Bounds, and SameBounds. -/
import Derived.Test.YtiglabknaldinaaRefNext
import Derived.Test.YtiglabknaldinaaCalBounds
namespace Go.Proofs.Ytiglabknaldinaa
open Go.RowKit
theorem rpG_info : (Try.prog.info? 43).map (fun i => (i.zero, i.size, i.bytes)) = some (some (.agg #[.int .i64 0, .int .i64 0, .int .i64 0, .int .i64 0]), 4, 32) := by kernel_rfl
def inB (n : Nat) (want : Int) : Bool := decide (0 ≤ want ∧ want < n)
theorem inB_yes {n : Nat} {want : Int} (h0 : 0 ≤ want) (h1 : want < n) : inB n want = true := by simp [inB]; omega
theorem inB_no {n : Nat} {want : Int} (h : ¬ (0 ≤ want ∧ want < n)) : inB n want = false := decide_eq_false h
theorem turn_in {n : Nat} {mode want : Int} (h0 : 0 ≤ want) (h1 : want < n) : turnS n mode want = want := by unfold turnS; rw [if_pos ⟨h0, h1⟩]
theorem turn_out {n : Nat} {mode want : Int} (h : ¬ (0 ≤ want ∧ want < n)) : turnS n mode want = mode := by unfold turnS; rw [if_neg h]
set_option maxRecDepth 100000 in
set_option maxHeartbeats 6400000 in
theorem refPages_any {x : Cf} {L : Hd Fm} {w : World} (hx : x.ok w) (hL : rdFms.ok w L) (h100 : L.l.length ≤ 1000) :
    Calls Try.prog 10 #[x.v, L.v] w fun e w' => ∃ v, e = .returned v ∧ w'.ownsRow w.heap.size 43 4 v (pagesS x Pg0 L.l).length ((pagesS x Pg0 L.l).flatMap Pg.f) ∧ Below w.heap.size w w' := by
  obtain ⟨i0, hi0, hz0, hz1, hz2⟩ := info_parts rpG_info
  have hu : Try.prog.underlying 39 = some (.slice 43) := by kernel_rfl
  have hn := hL.1.len
  have hxn := hx.2.2.2.2.1.len
  have hmn := hx.2.2.1.1.len
  obtain ⟨LA, Lc, Ll⟩ := L
  simp only at h100 hn ⊢
  have hb := (Below.refl w.heap.size w).alloc (Nat.le_refl _) (.cells #[.slice x.parts.A x.parts.l.length x.parts.c, .slice x.chans.A x.chans.l.length x.chans.c, .slice x.modes.A x.modes.l.length x.modes.c, .slice x.pw.levels.A x.pw.levels.l.length x.pw.levels.c, .slice x.pw.naps.A x.pw.naps.l.length x.pw.naps.c, .int .i64 x.pw.sw, .int .i64 x.pw.idle, .int .i64 x.pw.change, .int .i64 x.pw.quant, .int .i64 x.pw.slow, .int .i64 x.pw.ppm, .slice x.shed.down.A x.shed.down.l.length x.shed.down.c, .slice x.shed.up.A x.shed.up.l.length x.shed.up.c] 33)
  have b1 := Blk.new w 33 #[.slice x.parts.A x.parts.l.length x.parts.c, .slice x.chans.A x.chans.l.length x.chans.c, .slice x.modes.A x.modes.l.length x.modes.c, .slice x.pw.levels.A x.pw.levels.l.length x.pw.levels.c, .slice x.pw.naps.A x.pw.naps.l.length x.pw.naps.c, .int .i64 x.pw.sw, .int .i64 x.pw.idle, .int .i64 x.pw.change, .int .i64 x.pw.quant, .int .i64 x.pw.slow, .int .i64 x.pw.ppm, .slice x.shed.down.A x.shed.down.l.length x.shed.down.c, .slice x.shed.up.A x.shed.up.l.length x.shed.up.c]
  simp only [Cf.v, Hd.v]
  go_enter Try.func10, Try.ntmps10
  go_upto_region 1 with fail
  generalize w.alloc (.cells #[.slice x.parts.A x.parts.l.length x.parts.c, .slice x.chans.A x.chans.l.length x.chans.c, .slice x.modes.A x.modes.l.length x.modes.c, .slice x.pw.levels.A x.pw.levels.l.length x.pw.levels.c, .slice x.pw.naps.A x.pw.naps.l.length x.pw.naps.c, .int .i64 x.pw.sw, .int .i64 x.pw.idle, .int .i64 x.pw.change, .int .i64 x.pw.quant, .int .i64 x.pw.slow, .int .i64 x.pw.ppm, .slice x.shed.down.A x.shed.down.l.length x.shed.down.c, .slice x.shed.up.A x.shed.up.l.length x.shed.up.c] 33) = w1 at hb b1 ⊢
  have hs1 := b1.lt
  go_wp2_with fail
  obtain ⟨wo, rfl⟩ : ∃ wo : World, wo = w := ⟨_, rfl⟩
  go_loopw [5, 6, 7, 8, 9] (fun v at_ mo lv i wr => ∃ (k : Nat) (p : Pg) (done : List Pg), k ≤ Ll.length ∧ i = .int .i64 (k : Int) ∧ at_ = .int .i64 p.end_ ∧ mo = .int .i64 p.mode ∧ lv = .int .i64 p.level ∧ done.length = k ∧ pagesS x Pg0 Ll = done ++ pagesS x p (Ll.drop k) ∧ PgOk x p ∧
    wr.ownsRow w1.heap.size 43 4 v k (done.flatMap Pg.f) ∧ Below w1.heap.size w1 wr) (fun _ _ _ _ i _ => Ll.length - (intOf i).toNat)
  case atStart => exact ⟨0, Pg0, [], Nat.zero_le _, rfl, rfl, rfl, rfl, rfl, rfl, pg0_ok x, World.ownsRow_nil _ _ _ _, Below.refl _ _⟩
  case round =>
    obtain ⟨k, p, done, hk, rfl, rfl, rfl, rfl, hdk, hall, hp, hown, hbw⟩ := hrel
    have hB := hb.trans (hbw.mono hb.size)
    have bw := b1.keep hbw
    have HA := Lib.hid hall
    have HD := Lib.hid hdk
    clear hall hdk
    by_cases hlt : k < Ll.length
    · obtain ⟨bb, o, rfl, hbb, hc⟩ := (rdFms.keep hL hB).1.at_ Fm0 hlt
      have HK := Lib.hid (drop_atD Fm0 Ll hlt)
      simp only at hc
      have x0 : wr.cell? ⟨bb, o + k * 4, none⟩ = some (.int .i64 (atD Fm0 Ll k).reading) := hc 0 _ rfl
      have x1 : wr.cell? ⟨bb, o + k * 4 + 1, none⟩ = some (.int .i64 (atD Fm0 Ll k).mode) := hc 1 _ rfl
      clear hc
      generalize atD Fm0 Ll k = f at x0 x1 HK
      have HA1 : Hid (pagesS x Pg0 Ll = done ++ pagesS x p (f :: Ll.drop (k + 1))) := by have := HA.out; rw [HK.out] at this; exact this
      have c11 : wr.cell? ⟨wo.heap.size, 11, none⟩ = some (.slice x.shed.down.A x.shed.down.l.length x.shed.down.c) := bw.cell 11
      have c12 : wr.cell? ⟨wo.heap.size, 12, none⟩ = some (.slice x.shed.up.A x.shed.up.l.length x.shed.up.c) := bw.cell 12
      have hlw := bw.lt
      have hpe := hp.e
      have hpl := hp.l
      have hpm := hp.m
      have hnr := nextS_rng x.shed.down.l x.shed.up.l p.level f.reading hxn hpl
      go_wp2_with fail
      refine wp_region_fen (fun _ => False) [(8, 0)] (by kernel_rfl) (by kernel_rfl) ?_
      simp only [wpSegsF, List.take, List.drop]
      repeat (go_big_quiet_step (fail))
      refine wpQuiet_nil (wpHeadF_want rfl (fun K' hK' => ?_))
      go_wp2_with fail
      have hxd := rdSd.keep hx.2.2.2.2 (hB.trans (Below.drew (Below.refl _ wr) |>.mono hB.size))
      refine (refNext_any (w := wr.drew) hxd.1 hxd.2 p.level f.reading hpl).mono ?_
      rintro e w2 ⟨rfl, hb2⟩
      replace hb2 : Below wr.heap.size wr w2 := (Below.drew (Below.refl _ wr)).trans hb2
      refine hK' _ _ rfl (fr_graft (Fr.of_below hb2 _)) ?_
      clear hK' K' c11 c12
      try simp only [wpSegsF]
      repeat (go_big_quiet_step (fail))
      refine wpQuiet_nil ?_
      have bw2 := bw.keep hb2
      have hbw2 := hbw.trans (hb2.mono hbw.size)
      have hB2 := hB.trans (hb2.mono hB.size)
      have hown2 := own_below hown hb2
      obtain ⟨hcc, -⟩ := bcell hb2
      have x1' := (hcc _ _ hbb).trans x1
      have hbb2 : bb < w2.heap.size := Nat.lt_of_lt_of_le hbb hb2.size
      clear hcc x0 x1 hown hB hbw bw hxd hbb hlw
      generalize hlv : nextS x.shed.down.l x.shed.up.l p.level f.reading = lv at hnr ⊢
      have HL := Lib.hid hlv
      clear hlv
      have c2 : w2.cell? ⟨wo.heap.size, 2, none⟩ = some (.slice x.modes.A x.modes.l.length x.modes.c) := bw2.cell 2
      have hlw2 := bw2.lt
      go_upto_region 9 with fail
      go_cut [42] (fun v W => v = .bool (inB x.modes.l.length f.mode) ∧ Below w2.heap.size w2 W)
      case first =>
        by_cases h1 : 0 ≤ f.mode
        · by_cases h2 : f.mode < x.modes.l.length
          · have HT := Lib.hid (inB_yes h1 h2)
            go_wp2_with fail
            go_quiet (fail)
            go_wp2_with fail
            go_meet
            case rel => exact ⟨by rw [HT.out], below_refl_drewN _ _ _⟩
          · have HT := Lib.hid (inB_no (n := x.modes.l.length) (want := f.mode) (by omega))
            have h2' : decide (f.mode < (x.modes.l.length : Int)) = false := by simpa using h2
            go_wp2_with fail
            go_quiet (fail)
            go_wp2_with fail
            go_meet
            case rel => exact ⟨by rw [HT.out], below_refl_drewN _ _ _⟩
        · have HT := Lib.hid (inB_no (n := x.modes.l.length) (want := f.mode) (by omega))
          have h1' : decide (0 ≤ f.mode) = false := by simpa using h1
          go_wp2_with fail
          go_quiet (fail)
          go_wp2_with fail
          go_meet
          case rel => exact ⟨by rw [HT.out], below_refl_drewN _ _ _⟩
      case rest =>
        obtain ⟨rfl, hb3⟩ := hcut
        obtain ⟨w3, rfl⟩ : ∃ w3 : World, w3 = wc := ⟨_, rfl⟩
        obtain ⟨hcc, -⟩ := bcell hb3
        have x1'' := (hcc _ _ hbb2).trans x1'
        have hbb3 := Nat.lt_of_lt_of_le hbb2 hb3.size
        clear hcc
        go_upto_if 42 with fail
        go_cut [7] (fun v W => v = .int .i64 (turnS x.modes.l.length p.mode f.mode) ∧ w3 = W)
        case first =>
          by_cases h : 0 ≤ f.mode ∧ f.mode < x.modes.l.length
          · have HT := Lib.hid (turn_in (mode := p.mode) h.1 h.2)
            rw [inB_yes h.1 h.2]
            clear h
            go_wp2_with fail
            go_meet
            case rel => exact ⟨by rw [HT.out], rfl⟩
          · have HT := Lib.hid (turn_out (mode := p.mode) h)
            rw [inB_no h]
            clear h
            go_wp2_with fail
            go_meet
            case rel => exact ⟨by rw [HT.out], rfl⟩
        case rest =>
        obtain ⟨rfl, rfl⟩ := hcut
        have bw3 := bw2.keep hb3
        have hbw3 := hbw2.trans (hb3.mono hbw2.size)
        have hB3 := hB2.trans (hb3.mono hB2.size)
        have hown3 := own_below hown2 hb3
        have hx3 := rdMds.keep hx.2.2.1 hB3
        have hs3 := hB3.size
        clear c2 x1' hown2 hbw2 hB2 bw2 hlw2 hbb2
        have hlw3 := bw3.lt
        have c2 : w3.cell? ⟨wo.heap.size, 2, none⟩ = some (.slice x.modes.A x.modes.l.length x.modes.c) := bw3.cell 2
        have hm0 : 0 ≤ turnS x.modes.l.length p.mode f.mode := by unfold turnS; split <;> omega
        have hS : stepS x p f = if turnS x.modes.l.length p.mode f.mode < 0 ∨ (x.modes.l.length : Int) ≤ turnS x.modes.l.length p.mode f.mode then none else
          if (atD Md0 x.modes.l (turnS x.modes.l.length p.mode f.mode).toNat).frame < 1 ∨ 1152921504606846976 - p.end_ < (atD Md0 x.modes.l (turnS x.modes.l.length p.mode f.mode).toNat).frame then none else
          some ⟨p.end_, p.end_ + (atD Md0 x.modes.l (turnS x.modes.l.length p.mode f.mode).toNat).frame, turnS x.modes.l.length p.mode f.mode, nextS x.shed.down.l x.shed.up.l p.level f.reading⟩ := rfl
        generalize turnS x.modes.l.length p.mode f.mode = m at hm0 hS ⊢
        obtain ⟨m, rfl⟩ := Int.eq_ofNat_of_zero_le hm0
        rw [Int.toNat_natCast, HL.out] at hS
        by_cases hm : m < x.modes.l.length
        · obtain ⟨mb, mo, hA, hmb, hmc⟩ := hx3.1.at_ Md0 hm
          have m0 : w3.cell? ⟨mb, mo + m * 2, none⟩ = some (.int .i64 (atD Md0 x.modes.l m).frame) := hmc 0 _ rfl
          rw [hA] at c2
          clear hA hmc hx3
          rw [if_neg (by omega)] at hS
          generalize (atD Md0 x.modes.l m).frame = long at m0 hS
          by_cases h1 : long < 1
          · rw [if_pos (by omega)] at hS
            have HS := Lib.hid hS
            clear hS
            go_wp2_with fail
            go_ret
            exact ⟨_, rfl, by rw [pages_stop HA1.out HS.out, HD.out]; exact own_mono hown3 hb.size, hB3⟩
          · by_cases h2 : 1152921504606846976 - p.end_ < long
            · rw [if_pos (by omega)] at hS
              have HS := Lib.hid hS
              clear hS
              go_wp2_with fail
              go_ret
              exact ⟨_, rfl, by rw [pages_stop HA1.out HS.out, HD.out]; exact own_mono hown3 hb.size, hB3⟩
            · rw [if_neg (by omega)] at hS
              have hpq := stepS_ok hp hxn hmn hS
              have HA2 := Lib.hid (pages_snoc HA1.out hS)
              clear hS
              go_wp2_with (at_builtin; refine wpList_app1 w3 (by rfl) _ _ 39 (by rfl) w1.heap.size 43 i0 _ 4 32 hu hi0 hz0 hz1 hz2 rfl (by decide) (by decide) _ k _ (by rfl) hown3 #[.int .i64 p.end_, .int .i64 (p.end_ + long), .int .i64 (m : Int), .int .i64 lv] rfl (by simp [Value.oneCell']) (by rfl) (by omega) (by have := hbw3.size; omega) ?_; intro v' w4 hown4 hf4 hat4)
              refine ⟨⟨k + 1, ⟨p.end_, p.end_ + long, (m : Int), lv⟩, done ++ [⟨p.end_, p.end_ + long, (m : Int), lv⟩], by omega, by go_num, rfl, rfl, rfl, by rw [List.length_append, HD.out]; rfl, HA2.out, hpq, ?_, app_below hbw3 hown3 hf4⟩, by simp [intOf]; omega⟩
              rw [List.flatMap_append]
              exact hown4
        · rw [if_pos (by omega)] at hS
          have HS := Lib.hid hS
          clear hS
          go_wp2_with fail
          go_ret
          exact ⟨_, rfl, by rw [pages_stop HA1.out HS.out, HD.out]; exact own_mono hown3 hb.size, hB3⟩
    · obtain rfl : k = Ll.length := by omega
      go_wp2_with fail
      go_ret
      have hh := HA.out
      rw [List.drop_length, pagesS, List.append_nil] at hh
      exact ⟨_, rfl, by rw [hh, HD.out]; exact own_mono hown hb.size, hB⟩
end Go.Proofs.Ytiglabknaldinaa
