/- Words and walks for the claims of this seat, merged: RfEncode, RdSpec, Cut, RdWalks, RdInt, RdInv. -/
import Derived.Test.YtahjnonkhbpnpaaGreatCm1
import Derived.Test.YtahjnonkhbpnpaaGreatCm4
/- The document's Encode. Printed by wip/gen_rfe.py. -/
namespace Go.Proofs.YtahjnonkhbpnpaaGreat
open Go.RowKit
theorem kept_app {w w1 w' : World} {gk g : Nat} {tk : TypeId} {cs : Array Value} {v : Value} (hk : Blk w gk tk cs) (hn : ¬ v.ownBlock = some gk) (hB : Below w.heap.size w w1) (hf : Fr (fun k => v.ownBlock = some k) w1 w') (hv : v.ownBlock = some g ∨ g = w1.heap.size) : Blk w' gk tk cs ∧ ¬ (some g = some gk) := by
  have hlt := (hk.keep hB).lt
  refine ⟨(hk.keep hB).fr hf hn, fun e => ?_⟩
  cases e
  rcases hv with h | h
  · exact hn h
  · omega
theorem encPt_pos (x : Pt) : 0 < (encPt x).length := by
  have := (vint_len (x.regs.l.length : Int)).1
  unfold encPt
  simp only [lst, List.length_append]
  omega
theorem intsB2 (a b : Int) : intsB [a, b] = vint a ++ vint b := by show vint _ ++ (vint _ ++ []) = _; rw [List.append_nil]
theorem badL_split {α : Type} (bad : α → Bool) (l : List α) : badL bad l = (!decide (l.length ≤ 64) || l.any bad) := by
  unfold badL
  rw [← decide_not]
  congr 1
  exact decide_eq_decide.mpr (by omega)
theorem any_noB {α : Type} (l : List α) : l.any noB = false := by induction l with
  | nil => rfl
  | cons x l ih => rw [List.any_cons, ih]; rfl
theorem may_eq : ∀ a b c d e f g p m : Bool, (!((a && b && c && d && e && f && g) && !p && !m)) = (((((((!a || p) || !b) || (!c || m)) || (!d || !e)) || !f)) || !g) := by decide
theorem own_lt {w : World} {base : Nat} {e : TypeId} {sz : Nat} {v : Value} {n : Nat} {xs : List Value} (h : w.ownsRow base e sz v n xs) (k : Nat) (hk : v.ownBlock = some k) : k < w.heap.size := by
  rcases h.2 with ⟨rfl, _⟩ | ⟨g, c, cur, rfl, _, hg, _⟩
  · cases hk
  · cases hk
    exact (Array.getElem?_eq_some_iff.mp hg).1
def mayTop (x : Cf) : Bool := decide (x.parts.l.length ≤ 64) && decide (x.chans.l.length ≤ 64) && decide (x.modes.l.length ≤ 64) && decide (x.pw.levels.l.length ≤ 64) && decide (x.pw.naps.l.length ≤ 64) && decide (x.shed.down.l.length ≤ 64) && decide (x.shed.up.l.length ≤ 64)
set_option maxRecDepth 100000 in
set_option maxHeartbeats 12800000 in
theorem refEncode_any {wa : World} (x : Cf) (hx : x.ok wa) (hsh : x.short) : Calls Tryz.prog 10 #[x.v] wa (EncPost x wa 5) := by
  obtain ⟨⟨hs1, hs2, hs3, hs4, hs5, hs6, hs7⟩, hsp, hsm⟩ := hsh
  simp only [Cf.v]
  have hb := (Below.refl wa.heap.size wa).alloc (Nat.le_refl _) (.cells #[.slice x.parts.A x.parts.l.length x.parts.c, .slice x.chans.A x.chans.l.length x.chans.c, .slice x.modes.A x.modes.l.length x.modes.c, .slice x.pw.levels.A x.pw.levels.l.length x.pw.levels.c, .slice x.pw.naps.A x.pw.naps.l.length x.pw.naps.c, .int .i64 x.pw.sw, .int .i64 x.pw.idle, .int .i64 x.pw.change, .int .i64 x.pw.quant, .int .i64 x.pw.slow, .int .i64 x.pw.ppm, .slice x.shed.down.A x.shed.down.l.length x.shed.down.c, .slice x.shed.up.A x.shed.up.l.length x.shed.up.c] 33)
  have b1 := Blk.new wa 33 #[.slice x.parts.A x.parts.l.length x.parts.c, .slice x.chans.A x.chans.l.length x.chans.c, .slice x.modes.A x.modes.l.length x.modes.c, .slice x.pw.levels.A x.pw.levels.l.length x.pw.levels.c, .slice x.pw.naps.A x.pw.naps.l.length x.pw.naps.c, .int .i64 x.pw.sw, .int .i64 x.pw.idle, .int .i64 x.pw.change, .int .i64 x.pw.quant, .int .i64 x.pw.slow, .int .i64 x.pw.ppm, .slice x.shed.down.A x.shed.down.l.length x.shed.down.c, .slice x.shed.up.A x.shed.up.l.length x.shed.up.c]
  go_enter Tryz.func10, Tryz.ntmps10
  go_upto_region 1 with fail
  generalize hw1 : wa.alloc (.cells #[.slice x.parts.A x.parts.l.length x.parts.c, .slice x.chans.A x.chans.l.length x.chans.c, .slice x.modes.A x.modes.l.length x.modes.c, .slice x.pw.levels.A x.pw.levels.l.length x.pw.levels.c, .slice x.pw.naps.A x.pw.naps.l.length x.pw.naps.c, .int .i64 x.pw.sw, .int .i64 x.pw.idle, .int .i64 x.pw.change, .int .i64 x.pw.quant, .int .i64 x.pw.slow, .int .i64 x.pw.ppm, .slice x.shed.down.A x.shed.down.l.length x.shed.down.c, .slice x.shed.up.A x.shed.up.l.length x.shed.up.c] 33) = w1 at hb b1 ⊢
  have hz1 : wa.heap.size < w1.heap.size := b1.lt
  clear hw1
  have hbw1 := Below.refl w1.heap.size w1
  have HB : Hid (mayTop x = (decide (x.parts.l.length ≤ 64) && decide (x.chans.l.length ≤ 64) && decide (x.modes.l.length ≤ 64) && decide (x.pw.levels.l.length ≤ 64) && decide (x.pw.naps.l.length ≤ 64) && decide (x.shed.down.l.length ≤ 64) && decide (x.shed.up.l.length ≤ 64))) := rfl
  have c0 : w1.cell? ⟨wa.heap.size, 0, none⟩ = some (.slice x.parts.A x.parts.l.length x.parts.c) := (Blk.keep b1 hbw1).cell 0
  have c1 : w1.cell? ⟨wa.heap.size, 1, none⟩ = some (.slice x.chans.A x.chans.l.length x.chans.c) := (Blk.keep b1 hbw1).cell 1
  have c2 : w1.cell? ⟨wa.heap.size, 2, none⟩ = some (.slice x.modes.A x.modes.l.length x.modes.c) := (Blk.keep b1 hbw1).cell 2
  have c3 : w1.cell? ⟨wa.heap.size, 3, none⟩ = some (.slice x.pw.levels.A x.pw.levels.l.length x.pw.levels.c) := (Blk.keep b1 hbw1).cell 3
  have c4 : w1.cell? ⟨wa.heap.size, 4, none⟩ = some (.slice x.pw.naps.A x.pw.naps.l.length x.pw.naps.c) := (Blk.keep b1 hbw1).cell 4
  have c11 : w1.cell? ⟨wa.heap.size, 11, none⟩ = some (.slice x.shed.down.A x.shed.down.l.length x.shed.down.c) := (Blk.keep b1 hbw1).cell 11
  have c12 : w1.cell? ⟨wa.heap.size, 12, none⟩ = some (.slice x.shed.up.A x.shed.up.l.length x.shed.up.c) := (Blk.keep b1 hbw1).cell 12
  have hlbw1 : wa.heap.size < w1.heap.size := (Blk.keep b1 hbw1).lt
  go_cut [4] from 17 to 60 (fun c wx => c = .bool (mayTop x) ∧ wx = w1)
  case first =>
    by_cases q0 : x.parts.l.length ≤ 64
    rotate_left
    · have _d := True.intro
      go_wp2_with fail
      go_meet
      exact ⟨by rw [HB.out]; simp [q0], rfl⟩
    by_cases q1 : x.chans.l.length ≤ 64
    rotate_left
    · have _d := True.intro
      go_wp2_with fail
      go_meet
      exact ⟨by rw [HB.out]; simp [q0, q1], rfl⟩
    by_cases q2 : x.modes.l.length ≤ 64
    rotate_left
    · have _d := True.intro
      go_wp2_with fail
      go_meet
      exact ⟨by rw [HB.out]; simp [q0, q1, q2], rfl⟩
    by_cases q3 : x.pw.levels.l.length ≤ 64
    rotate_left
    · have _d := True.intro
      go_wp2_with fail
      go_meet
      exact ⟨by rw [HB.out]; simp [q0, q1, q2, q3], rfl⟩
    by_cases q4 : x.pw.naps.l.length ≤ 64
    rotate_left
    · have _d := True.intro
      go_wp2_with fail
      go_meet
      exact ⟨by rw [HB.out]; simp [q0, q1, q2, q3, q4], rfl⟩
    by_cases q5 : x.shed.down.l.length ≤ 64
    rotate_left
    · have _d := True.intro
      go_wp2_with fail
      go_meet
      exact ⟨by rw [HB.out]; simp [q0, q1, q2, q3, q4, q5], rfl⟩
    go_wp2_with fail
    go_meet
    exact ⟨by rw [HB.out]; simp [q0, q1, q2, q3, q4, q5]; omega, rfl⟩
  case rest =>
    obtain ⟨rfl, hwc⟩ := hcut
    have hwd := hwc.symm
    subst hwd
    clear c0 c1 c2 c3 c4 c11 c12
    clear hlbw1 HB
    generalize hmay : mayTop x = may
    have HM := Lib.hid hmay
    clear hmay
    have c0 : w1.cell? ⟨wa.heap.size, 0, none⟩ = some (.slice x.parts.A x.parts.l.length x.parts.c) := (Blk.keep b1 hbw1).cell 0
    have hlbw1 : wa.heap.size < w1.heap.size := (Blk.keep b1 hbw1).lt
    go_wp2_with fail
    refine (refInt_any (w := w1) (n := (x.parts.l.length : Int)) (by unfold i64; omega)).mono ?_
    rintro e w2 ⟨vw2, rfl, hown, hbn⟩
    have hil := vint_le (x.parts.l.length : Int)
    clear c0
    clear hlbw1
    have hbw2 := hbw1.trans (hbn.mono hbw1.size)
    obtain ⟨L3, hL3⟩ : ∃ L, L = vint (x.parts.l.length : Int) := ⟨_, rfl⟩
    have how2 := own_mono hown hbw1.size
    rw [← hL3] at how2
    have nL3 : L3.length ≤ 11 := by rw [hL3]; omega
    have HL3 := Lib.hid hL3
    clear hL3
    clear hown hbn hil
    have c0 : w2.cell? ⟨wa.heap.size, 0, none⟩ = some (.slice x.parts.A x.parts.l.length x.parts.c) := (Blk.keep b1 hbw2).cell 0
    have hlbw2 : wa.heap.size < w2.heap.size := (Blk.keep b1 hbw2).lt
    go_wp2_with fail
    clear c0
    go_loopw [4, 5, 6, 7, 8] (fun m v i _ _ wr => ∃ (k4 : Nat) (M : List UInt8) (mb : Bool), k4 ≤ x.parts.l.length ∧ i = .int .i64 (k4 : Int) ∧ Hid (M = L3 ++ (x.parts.l.take k4).flatMap encPt) ∧ M.length ≤ 11 + k4 * 15000 ∧ wr.ownsRow w1.heap.size 5 1 v M.length (M.map bv) ∧ Below w1.heap.size w1 wr ∧ m = .bool mb ∧ Hid (mb = (may && !(x.parts.l.take k4).any badPt))) (fun _ _ i _ _ _ => x.parts.l.length - (intOf i).toNat)
    case atStart => exact ⟨0, L3, may, Nat.zero_le _, rfl, (by unfold Hid; simp), by omega, how2, hbw2, rfl, (by unfold Hid; simp)⟩
    case round =>
      clear how2 hbw2
      obtain ⟨k4, L5, mb7, hk, rfl, HL5, nL5, hoR, hbR, rfl, Hmb7⟩ := hrel
      obtain ⟨w6, hWr⟩ : ∃ w : World, w = wr := ⟨_, rfl⟩
      subst hWr
      have how6 := hoR
      have hbw6 := hbR
      clear hoR hbR
      by_cases hltk4 : k4 < x.parts.l.length
      · have _d := True.intro
        have hkMk4 : k4 * 15000 ≤ 100 * 15000 := Nat.mul_le_mul_right 15000 (by omega)
        have hKk4 := Lib.hid (show (x.parts.l.take (k4 + 1)).flatMap encPt = (x.parts.l.take k4).flatMap encPt ++ encPt (atD Pt0 x.parts.l k4) by rw [take_snocG Pt0 _ _ hltk4, List.flatMap_append]; simp)
        have hyy := (rdPts.keep hx.1 hb).2 _ (atD_mem (d := Pt0) hltk4)
        obtain ⟨eby, eoy, hA, heby, hec⟩ := (rdPts.keep hx.1 hb).1.at_ Pt0 hltk4
        have HAy := Lib.hid hA
        clear hA
        have hKbk4 := Lib.hid (show (x.parts.l.take (k4 + 1)).any badPt = ((x.parts.l.take k4).any badPt || badPt (atD Pt0 x.parts.l k4)) by rw [take_snocG Pt0 _ _ hltk4, List.any_append]; simp)
        have Xy0 : w1.cell? ⟨eby, eoy + k4 * 11, none⟩ = some (.slice (atD Pt0 x.parts.l k4).regs.A (atD Pt0 x.parts.l k4).regs.l.length (atD Pt0 x.parts.l k4).regs.c) := hec 0 _ rfl
        have Xy1 : w1.cell? ⟨eby, eoy + k4 * 11 + 1, none⟩ = some (.slice (atD Pt0 x.parts.l k4).procs.A (atD Pt0 x.parts.l k4).procs.l.length (atD Pt0 x.parts.l k4).procs.c) := hec 1 _ rfl
        have Xy2 : w1.cell? ⟨eby, eoy + k4 * 11 + 2, none⟩ = some (.slice (atD Pt0 x.parts.l k4).ports.A (atD Pt0 x.parts.l k4).ports.l.length (atD Pt0 x.parts.l k4).ports.c) := hec 2 _ rfl
        have Xy3 : w1.cell? ⟨eby, eoy + k4 * 11 + 3, none⟩ = some (.slice (atD Pt0 x.parts.l k4).sems.A (atD Pt0 x.parts.l k4).sems.l.length (atD Pt0 x.parts.l k4).sems.c) := hec 3 _ rfl
        have Xy4 : w1.cell? ⟨eby, eoy + k4 * 11 + 4, none⟩ = some (.int .i64 (atD Pt0 x.parts.l k4).flags) := hec 4 _ rfl
        have Xy5 : w1.cell? ⟨eby, eoy + k4 * 11 + 5, none⟩ = some (.slice (atD Pt0 x.parts.l k4).pools.A (atD Pt0 x.parts.l k4).pools.l.length (atD Pt0 x.parts.l k4).pools.c) := hec 5 _ rfl
        have Xy6 : w1.cell? ⟨eby, eoy + k4 * 11 + 6, none⟩ = some (.slice (atD Pt0 x.parts.l k4).slates.A (atD Pt0 x.parts.l k4).slates.l.length (atD Pt0 x.parts.l k4).slates.c) := hec 6 _ rfl
        have Xy7 : w1.cell? ⟨eby, eoy + k4 * 11 + 7, none⟩ = some (.int .i64 (atD Pt0 x.parts.l k4).cap) := hec 7 _ rfl
        have Xy8 : w1.cell? ⟨eby, eoy + k4 * 11 + 8, none⟩ = some (.int .i64 (atD Pt0 x.parts.l k4).bud) := hec 8 _ rfl
        have Xy9 : w1.cell? ⟨eby, eoy + k4 * 11 + 9, none⟩ = some (.int .i64 (atD Pt0 x.parts.l k4).lad) := hec 9 _ rfl
        have Xy10 : w1.cell? ⟨eby, eoy + k4 * 11 + 10, none⟩ = some (.slice (atD Pt0 x.parts.l k4).acts.A (atD Pt0 x.parts.l k4).acts.l.length (atD Pt0 x.parts.l k4).acts.c) := hec 10 _ rfl
        have hysh := hsp _ (atD_mem (d := Pt0) hltk4)
        clear hec
        generalize atD Pt0 x.parts.l k4 = y at hyy hKk4 hKbk4 Xy0 Xy1 Xy2 Xy3 Xy4 Xy5 Xy6 Xy7 Xy8 Xy9 Xy10 hysh
        have i_y_flags : i64 y.flags := hyy.2.2.2.2.1
        have i_y_cap : i64 y.cap := hyy.2.2.2.2.2.2.2.1
        have i_y_bud : i64 y.bud := hyy.2.2.2.2.2.2.2.2.1
        have i_y_lad : i64 y.lad := hyy.2.2.2.2.2.2.2.2.2.1
        have c0 : w6.cell? ⟨wa.heap.size, 0, none⟩ = some (.slice (some ⟨eby, eoy, none⟩) x.parts.l.length x.parts.c) := by rw [← HAy.out]; exact (Blk.keep b1 hbw6).cell 0
        have hlbw6 : wa.heap.size < w6.heap.size := (Blk.keep b1 hbw6).lt
        have hle := Nat.lt_of_lt_of_le heby hbw6.size
        have x0 := (hbw6.cell (p := ⟨eby, _, none⟩) heby).trans Xy0
        have x1 := (hbw6.cell (p := ⟨eby, _, none⟩) heby).trans Xy1
        have x2 := (hbw6.cell (p := ⟨eby, _, none⟩) heby).trans Xy2
        have x3 := (hbw6.cell (p := ⟨eby, _, none⟩) heby).trans Xy3
        have x4 := (hbw6.cell (p := ⟨eby, _, none⟩) heby).trans Xy4
        have x5 := (hbw6.cell (p := ⟨eby, _, none⟩) heby).trans Xy5
        have x6 := (hbw6.cell (p := ⟨eby, _, none⟩) heby).trans Xy6
        have x7 := (hbw6.cell (p := ⟨eby, _, none⟩) heby).trans Xy7
        have x8 := (hbw6.cell (p := ⟨eby, _, none⟩) heby).trans Xy8
        have x9 := (hbw6.cell (p := ⟨eby, _, none⟩) heby).trans Xy9
        have x10 := (hbw6.cell (p := ⟨eby, _, none⟩) heby).trans Xy10
        go_wp2_with fail
        refine (refPart_any y (rdPt.keep hyy hbw6) hysh).mono ?_
        rintro e w8 ⟨vv, rfl, hown, hbn⟩
        obtain ⟨vA, vc, rfl, hvs, -⟩ := SlB.of_own hown
        have hin : (encPt y).length ≤ 15000 := encPt_len y hysh
        generalize hbo : (!badPt y) = bo
        have HBo := Lib.hid hbo
        clear hbo
        have hbz := hbw6.trans (hbn.mono hbw6.size)
        have hoz := own_below how6 hbn
        have hzz := hbz.size
        go_upto_region 8 with (at_builtin; refine wpList_appM w8 (by rfl) _ _ (by rfl) w1.heap.size _ _ (by rfl) hoz vA _ vc _ hvs (encPt_pos y) (by rfl) (by omega) hzz ?_; intro gw9 cw9 w9 L10 HL10 hnn hoy hfy hvg)
        clear c0 hle x0 x1 x2 x3 x4 x5 x6 x7 x8 x9 x10
        have hbw9 := app_below hbz hoz hfy
        have how9 := hoy
        have nL10 : L10.length ≤ 11 + k4 * 15000 + 15000 := by omega
        clear hnn hoy hfy hvg
        clear how6 hbw6 nL5 hlbw6
        clear hbz hoz hzz hvs hbn hown
        clear hin
        cases mb7
        · have _d := True.intro
          go_wp2_with fail
          exact ⟨⟨k4 + 1, L10, _, by omega, by go_num, (by unfold Hid; rw [hKk4.out, ← List.append_assoc, ← HL5.out]; rw [HL10.out]; (try unfold encPt); (try simp only [lst, intsB2, List.append_assoc])), by omega, how9, hbw9, rfl, (by unfold Hid; rw [hKbk4.out, Bool.not_or, ← Bool.and_assoc, ← Hmb7.out, HBo.out]; try rfl)⟩, by simp [intOf]; omega⟩
        · have _d := True.intro
          go_wp2_with fail
          exact ⟨⟨k4 + 1, L10, _, by omega, by go_num, (by unfold Hid; rw [hKk4.out, ← List.append_assoc, ← HL5.out]; rw [HL10.out]; (try unfold encPt); (try simp only [lst, intsB2, List.append_assoc])), by omega, how9, hbw9, rfl, (by unfold Hid; rw [hKbk4.out, Bool.not_or, ← Bool.and_assoc, ← Hmb7.out, HBo.out]; try rfl)⟩, by simp [intOf]; omega⟩
      · obtain rfl : k4 = x.parts.l.length := by omega
        have H2L5 := HL5
        rw [List.take_length] at H2L5
        clear HL5
        have hkM : x.parts.l.length * 15000 ≤ 100 * 15000 := Nat.mul_le_mul_right 15000 (by omega)
        replace nL5 : L5.length ≤ 1500011 := by omega
        clear hkM
        have H2mb7 := Hmb7
        rw [List.take_length] at H2mb7
        clear Hmb7
        have c0 : w6.cell? ⟨wa.heap.size, 0, none⟩ = some (.slice x.parts.A x.parts.l.length x.parts.c) := (Blk.keep b1 hbw6).cell 0
        have c1 : w6.cell? ⟨wa.heap.size, 1, none⟩ = some (.slice x.chans.A x.chans.l.length x.chans.c) := (Blk.keep b1 hbw6).cell 1
        have hlbw6 : wa.heap.size < w6.heap.size := (Blk.keep b1 hbw6).lt
        go_wp2_with fail
        refine (refInt_any (n := (x.chans.l.length : Int)) (by unfold i64; omega)).mono ?_
        rintro e w11 ⟨vv, rfl, hown, hbn⟩
        obtain ⟨vA, vc, rfl, hvs, -⟩ := SlB.of_own hown
        have hil := vint_len (x.chans.l.length : Int)
        have hbz := hbw6.trans (hbn.mono hbw6.size)
        have hoz := own_below how6 hbn
        have hzz := hbz.size
        go_wp2_with (at_builtin; refine wpList_appM w11 (by rfl) _ _ (by rfl) w1.heap.size _ _ (by rfl) hoz vA _ vc _ hvs hil.1 (by rfl) (by omega) hzz ?_; intro gw12 cw12 w12 L13 HL13 hnn hoy hfy hvg)
        clear c0 c1
        have hbw12 := app_below hbz hoz hfy
        have how12 := hoy
        have nL13 : L13.length ≤ 1500022 := by omega
        clear hnn hoy hfy hvg
        clear how6 hbw6 nL5 hlbw6
        clear hbz hoz hzz hvs hbn hown
        clear hil
        have c1 : w12.cell? ⟨wa.heap.size, 1, none⟩ = some (.slice x.chans.A x.chans.l.length x.chans.c) := (Blk.keep b1 hbw12).cell 1
        have hlbw12 : wa.heap.size < w12.heap.size := (Blk.keep b1 hbw12).lt
        go_wp2_with fail
        clear c1
        go_loopw [5, 9, 10] (fun v i _ wr => ∃ (k14 : Nat) (M : List UInt8), k14 ≤ x.chans.l.length ∧ i = .int .i64 (k14 : Int) ∧ Hid (M = L13 ++ (x.chans.l.take k14).flatMap encCh) ∧ M.length ≤ 1500022 + k14 * 44 ∧ wr.ownsRow w1.heap.size 5 1 v M.length (M.map bv) ∧ Below w1.heap.size w1 wr) (fun _ i _ _ => x.chans.l.length - (intOf i).toNat)
        case atStart => exact ⟨0, L13, Nat.zero_le _, rfl, (by unfold Hid; simp), by omega, how12, hbw12⟩
        case round =>
          clear how12 hbw12
          obtain ⟨k14, L15, hk, rfl, HL15, nL15, hoR, hbR⟩ := hrel
          obtain ⟨w16, hWr⟩ : ∃ w : World, w = wr := ⟨_, rfl⟩
          subst hWr
          have how16 := hoR
          have hbw16 := hbR
          clear hoR hbR
          by_cases hltk14 : k14 < x.chans.l.length
          · have _d := True.intro
            have hkMk14 : k14 * 44 ≤ 100 * 44 := Nat.mul_le_mul_right 44 (by omega)
            have hKk14 := Lib.hid (show (x.chans.l.take (k14 + 1)).flatMap encCh = (x.chans.l.take k14).flatMap encCh ++ encCh (atD Ch0 x.chans.l k14) by rw [take_snocG Ch0 _ _ hltk14, List.flatMap_append]; simp)
            have hyy := (rdChs.keep hx.2.1 hb).2 _ (atD_mem (d := Ch0) hltk14)
            obtain ⟨eby, eoy, hA, heby, hec⟩ := (rdChs.keep hx.2.1 hb).1.at_ Ch0 hltk14
            have HAy := Lib.hid hA
            clear hA
            have Xy0 : w1.cell? ⟨eby, eoy + k14 * 4, none⟩ = some (.int .i64 (atD Ch0 x.chans.l k14).fr.part) := hec 0 _ rfl
            have Xy1 : w1.cell? ⟨eby, eoy + k14 * 4 + 1, none⟩ = some (.int .i64 (atD Ch0 x.chans.l k14).fr.port) := hec 1 _ rfl
            have Xy2 : w1.cell? ⟨eby, eoy + k14 * 4 + 2, none⟩ = some (.int .i64 (atD Ch0 x.chans.l k14).to.part) := hec 2 _ rfl
            have Xy3 : w1.cell? ⟨eby, eoy + k14 * 4 + 3, none⟩ = some (.int .i64 (atD Ch0 x.chans.l k14).to.port) := hec 3 _ rfl
            clear hec
            generalize atD Ch0 x.chans.l k14 = y at hyy hKk14 Xy0 Xy1 Xy2 Xy3
            have i_y_fr_part : i64 y.fr.part := hyy.1.1
            have i_y_fr_port : i64 y.fr.port := hyy.1.2
            have i_y_to_part : i64 y.to.part := hyy.2.1
            have i_y_to_port : i64 y.to.port := hyy.2.2
            have c1 : w16.cell? ⟨wa.heap.size, 1, none⟩ = some (.slice (some ⟨eby, eoy, none⟩) x.chans.l.length x.chans.c) := by rw [← HAy.out]; exact (Blk.keep b1 hbw16).cell 1
            have hlbw16 : wa.heap.size < w16.heap.size := (Blk.keep b1 hbw16).lt
            have hle := Nat.lt_of_lt_of_le heby hbw16.size
            have x0 := (hbw16.cell (p := ⟨eby, _, none⟩) heby).trans Xy0
            have x1 := (hbw16.cell (p := ⟨eby, _, none⟩) heby).trans Xy1
            have x2 := (hbw16.cell (p := ⟨eby, _, none⟩) heby).trans Xy2
            have x3 := (hbw16.cell (p := ⟨eby, _, none⟩) heby).trans Xy3
            go_upto_region 14 with fail
            have hbc := (Below.refl w16.heap.size w16).alloc (Nat.le_refl _) (.cells #[.int .i64 y.fr.part, .int .i64 y.fr.port, .int .i64 y.to.part, .int .i64 y.to.port] 72)
            have kbw18 := Blk.new w16 72 #[.int .i64 y.fr.part, .int .i64 y.fr.port, .int .i64 y.to.part, .int .i64 y.to.port]
            have hbw18 := hbw16.trans (hbc.mono hbw16.size)
            have knw18 := fun h => Nat.lt_irrefl _ (own_lt how16 w16.heap.size h)
            have how18 := own_below how16 hbc
            clear hbc
            clear c1 hle x0 x1 x2 x3
            clear how16 hbw16 hlbw16
            generalize w16.alloc (.cells #[.int .i64 y.fr.part, .int .i64 y.fr.port, .int .i64 y.to.part, .int .i64 y.to.port] 72) = w18 at kbw18 hbw18 how18 ⊢
            generalize w16.heap.size = g17 at kbw18 knw18 ⊢
            have c0 : w18.cell? ⟨g17, 0, none⟩ = some (.int .i64 y.fr.part) := kbw18.cell 0
            have c1 : w18.cell? ⟨g17, 1, none⟩ = some (.int .i64 y.fr.port) := kbw18.cell 1
            have c2 : w18.cell? ⟨g17, 2, none⟩ = some (.int .i64 y.to.part) := kbw18.cell 2
            have c3 : w18.cell? ⟨g17, 3, none⟩ = some (.int .i64 y.to.port) := kbw18.cell 3
            have hlbw18 := kbw18.lt
            have hbp := (Below.refl w18.heap.size w18).alloc (Nat.le_refl _) (.cells #[.int .i64 y.fr.part, .int .i64 y.fr.port, .int .i64 y.to.part, .int .i64 y.to.port] 3)
            have hsl := SlI.of_blk (Blk.new w18 3 #[.int .i64 y.fr.part, .int .i64 y.fr.port, .int .i64 y.to.part, .int .i64 y.to.port]) [y.fr.part, y.fr.port, y.to.part, y.to.port] rfl (show 4 ≤ 1000000 by omega) (fun z hz => by
              simp only [List.mem_cons, List.mem_nil_iff, or_false] at hz
              rcases hz with rfl | rfl | rfl | rfl <;> first | assumption | (unfold i64; omega))
            go_wp2_with fail
            refine (refRow_any hsl (show 4 ≤ 1000 by omega)).mono ?_
            rintro e w19 ⟨vv, rfl, hown, hbn⟩
            obtain ⟨vA, vc, rfl, hvs, -⟩ := SlB.of_own hown
            have hil := vint_len y.fr.part
            have hin : (intsB [y.fr.part, y.fr.port, y.to.part, y.to.port]).length ≤ 44 := intsB_len [y.fr.part, y.fr.port, y.to.part, y.to.port]
            have hbq := hbp.trans (hbn.mono hbp.size)
            have hbz := hbw18.trans (hbq.mono hbw18.size)
            have hoz := own_below how18 hbq
            have hzz := hbz.size
            go_wp2_with (at_builtin; refine wpList_appM w19 (by rfl) _ _ (by rfl) w1.heap.size _ _ (by rfl) hoz vA _ vc _ hvs (by rw [show intsB [y.fr.part, y.fr.port, y.to.part, y.to.port] = vint y.fr.part ++ intsB [y.fr.port, y.to.part, y.to.port] from rfl, List.length_append]; omega) (by rfl) (by omega) hzz ?_; intro gw20 cw20 w20 L21 HL21 hnn hoy hfy hvg)
            clear c0 c1 c2 c3
            have kzw20 := kept_app kbw18 knw18 hbq hfy hvg
            have kbw20 := kzw20.1
            have knw20 := kzw20.2
            clear kzw20 kbw18 knw18
            have hbw20 := app_below hbz hoz hfy
            have how20 := hoy
            have nL21 : L21.length ≤ 1500022 + k14 * 44 + 44 := by omega
            clear hnn hoy hfy hvg
            clear how18 hbw18 nL15 hlbw18
            clear hbz hoz hzz hvs hbn hown hbp hbq hsl
            clear hil hin
            exact ⟨⟨k14 + 1, L21, by omega, by go_num, (by unfold Hid; rw [hKk14.out, ← List.append_assoc, ← HL15.out]; rw [HL21.out]; (try unfold encCh); (try simp only)), by omega, how20, hbw20⟩, by simp [intOf]; omega⟩
          · obtain rfl : k14 = x.chans.l.length := by omega
            have H2L15 := HL15
            rw [List.take_length] at H2L15
            clear HL15
            have hkM : x.chans.l.length * 44 ≤ 100 * 44 := Nat.mul_le_mul_right 44 (by omega)
            replace nL15 : L15.length ≤ 1504422 := by omega
            clear hkM
            have c1 : w16.cell? ⟨wa.heap.size, 1, none⟩ = some (.slice x.chans.A x.chans.l.length x.chans.c) := (Blk.keep b1 hbw16).cell 1
            have c2 : w16.cell? ⟨wa.heap.size, 2, none⟩ = some (.slice x.modes.A x.modes.l.length x.modes.c) := (Blk.keep b1 hbw16).cell 2
            have hlbw16 : wa.heap.size < w16.heap.size := (Blk.keep b1 hbw16).lt
            go_wp2_with fail
            refine (refInt_any (n := (x.modes.l.length : Int)) (by unfold i64; omega)).mono ?_
            rintro e w22 ⟨vv, rfl, hown, hbn⟩
            obtain ⟨vA, vc, rfl, hvs, -⟩ := SlB.of_own hown
            have hil := vint_len (x.modes.l.length : Int)
            have hbz := hbw16.trans (hbn.mono hbw16.size)
            have hoz := own_below how16 hbn
            have hzz := hbz.size
            go_wp2_with (at_builtin; refine wpList_appM w22 (by rfl) _ _ (by rfl) w1.heap.size _ _ (by rfl) hoz vA _ vc _ hvs hil.1 (by rfl) (by omega) hzz ?_; intro gw23 cw23 w23 L24 HL24 hnn hoy hfy hvg)
            clear c1 c2
            have hbw23 := app_below hbz hoz hfy
            have how23 := hoy
            have nL24 : L24.length ≤ 1504433 := by omega
            clear hnn hoy hfy hvg
            clear how16 hbw16 nL15 hlbw16
            clear hbz hoz hzz hvs hbn hown
            clear hil
            have c2 : w23.cell? ⟨wa.heap.size, 2, none⟩ = some (.slice x.modes.A x.modes.l.length x.modes.c) := (Blk.keep b1 hbw23).cell 2
            have hlbw23 : wa.heap.size < w23.heap.size := (Blk.keep b1 hbw23).lt
            go_wp2_with fail
            clear c2
            go_loopw [4, 5, 11, 12, 13] (fun m v i _ _ wr => ∃ (k25 : Nat) (M : List UInt8) (mb : Bool), k25 ≤ x.modes.l.length ∧ i = .int .i64 (k25 : Int) ∧ Hid (M = L24 ++ (x.modes.l.take k25).flatMap encMd) ∧ M.length ≤ 1504433 + k25 * 3322 ∧ wr.ownsRow w1.heap.size 5 1 v M.length (M.map bv) ∧ Below w1.heap.size w1 wr ∧ m = .bool mb ∧ Hid (mb = (mb7 && !(x.modes.l.take k25).any badMd))) (fun _ _ i _ _ _ => x.modes.l.length - (intOf i).toNat)
            case atStart => exact ⟨0, L24, mb7, Nat.zero_le _, rfl, (by unfold Hid; simp), by omega, how23, hbw23, rfl, (by unfold Hid; simp)⟩
            case round =>
              clear how23 hbw23
              obtain ⟨k25, L26, mb28, hk, rfl, HL26, nL26, hoR, hbR, rfl, Hmb28⟩ := hrel
              obtain ⟨w27, hWr⟩ : ∃ w : World, w = wr := ⟨_, rfl⟩
              subst hWr
              have how27 := hoR
              have hbw27 := hbR
              clear hoR hbR
              by_cases hltk25 : k25 < x.modes.l.length
              · have _d := True.intro
                have hkMk25 : k25 * 3322 ≤ 100 * 3322 := Nat.mul_le_mul_right 3322 (by omega)
                have hKk25 := Lib.hid (show (x.modes.l.take (k25 + 1)).flatMap encMd = (x.modes.l.take k25).flatMap encMd ++ encMd (atD Md0 x.modes.l k25) by rw [take_snocG Md0 _ _ hltk25, List.flatMap_append]; simp)
                have hyy := (rdMds.keep hx.2.2.1 hb).2 _ (atD_mem (d := Md0) hltk25)
                obtain ⟨eby, eoy, hA, heby, hec⟩ := (rdMds.keep hx.2.2.1 hb).1.at_ Md0 hltk25
                have HAy := Lib.hid hA
                clear hA
                have hKbk25 := Lib.hid (show (x.modes.l.take (k25 + 1)).any badMd = ((x.modes.l.take k25).any badMd || badMd (atD Md0 x.modes.l k25)) by rw [take_snocG Md0 _ _ hltk25, List.any_append]; simp)
                have Xy0 : w1.cell? ⟨eby, eoy + k25 * 2, none⟩ = some (.int .i64 (atD Md0 x.modes.l k25).frame) := hec 0 _ rfl
                have Xy1 : w1.cell? ⟨eby, eoy + k25 * 2 + 1, none⟩ = some (.slice (atD Md0 x.modes.l k25).wins.A (atD Md0 x.modes.l k25).wins.l.length (atD Md0 x.modes.l k25).wins.c) := hec 1 _ rfl
                have hysh := hsm _ (atD_mem (d := Md0) hltk25)
                clear hec
                generalize atD Md0 x.modes.l k25 = y at hyy hKk25 hKbk25 Xy0 Xy1 hysh
                have i_y_frame : i64 y.frame := hyy.1
                have c2 : w27.cell? ⟨wa.heap.size, 2, none⟩ = some (.slice (some ⟨eby, eoy, none⟩) x.modes.l.length x.modes.c) := by rw [← HAy.out]; exact (Blk.keep b1 hbw27).cell 2
                have hlbw27 : wa.heap.size < w27.heap.size := (Blk.keep b1 hbw27).lt
                have hle := Nat.lt_of_lt_of_le heby hbw27.size
                have x0 := (hbw27.cell (p := ⟨eby, _, none⟩) heby).trans Xy0
                have x1 := (hbw27.cell (p := ⟨eby, _, none⟩) heby).trans Xy1
                go_upto_region 20 with fail
                have hbc := (Below.refl w27.heap.size w27).alloc (Nat.le_refl _) (.cells #[.int .i64 y.frame, .slice y.wins.A y.wins.l.length y.wins.c] 58)
                have kbw30 := Blk.new w27 58 #[.int .i64 y.frame, .slice y.wins.A y.wins.l.length y.wins.c]
                have hbw30 := hbw27.trans (hbc.mono hbw27.size)
                have knw30 := fun h => Nat.lt_irrefl _ (own_lt how27 w27.heap.size h)
                have how30 := own_below how27 hbc
                clear hbc
                clear c2 hle x0 x1
                clear how27 hbw27 hlbw27
                generalize w27.alloc (.cells #[.int .i64 y.frame, .slice y.wins.A y.wins.l.length y.wins.c] 58) = w30 at kbw30 hbw30 how30 ⊢
                generalize w27.heap.size = g29 at kbw30 knw30 ⊢
                have c1 : w30.cell? ⟨g29, 1, none⟩ = some (.slice y.wins.A y.wins.l.length y.wins.c) := kbw30.cell 1
                have hlbw30 := kbw30.lt
                have HBo := Lib.hid (show (!badMd y) = decide (y.wins.l.length ≤ 64) by unfold badMd; rw [badL_noB, Bool.not_not])
                go_cut [4] from 128 to 184 (fun c wx => c = .bool (mb28 && decide (y.wins.l.length ≤ 64)) ∧ wx = w30)
                case first =>
                  cases mb28
                  · go_wp2_with fail
                    go_meet
                    exact ⟨rfl, rfl⟩
                  · go_wp2_with fail
                    go_meet
                    exact ⟨by simp <;> omega, rfl⟩
                case rest =>
                  clear c1
                  obtain ⟨rfl, hwc⟩ := hcut
                  have hwd := hwc.symm
                  subst hwd
                  clear hlbw30 hwc
                  generalize hmc : (mb28 && decide (y.wins.l.length ≤ 64)) = mc31
                  have HMC := Lib.hid hmc
                  clear hmc
                  have c0 : w30.cell? ⟨g29, 0, none⟩ = some (.int .i64 y.frame) := kbw30.cell 0
                  have c1 : w30.cell? ⟨g29, 1, none⟩ = some (.slice y.wins.A y.wins.l.length y.wins.c) := kbw30.cell 1
                  have hlbw30 := kbw30.lt
                  have hbp := (Below.refl w30.heap.size w30).alloc (Nat.le_refl _) (.cells #[.int .i64 y.frame, .int .i64 (y.wins.l.length : Int)] 3)
                  have hsl := SlI.of_blk (Blk.new w30 3 #[.int .i64 y.frame, .int .i64 (y.wins.l.length : Int)]) [y.frame, (y.wins.l.length : Int)] rfl (show 2 ≤ 1000000 by omega) (fun z hz => by
                    simp only [List.mem_cons, List.mem_nil_iff, or_false] at hz
                    rcases hz with rfl | rfl <;> first | assumption | (unfold i64; omega))
                  go_wp2_with fail
                  refine (refRow_any hsl (show 2 ≤ 1000 by omega)).mono ?_
                  rintro e w32 ⟨vv, rfl, hown, hbn⟩
                  obtain ⟨vA, vc, rfl, hvs, -⟩ := SlB.of_own hown
                  have hil := vint_len y.frame
                  have hin : (intsB [y.frame, (y.wins.l.length : Int)]).length ≤ 22 := intsB_len [y.frame, (y.wins.l.length : Int)]
                  have hbq := hbp.trans (hbn.mono hbp.size)
                  have hbz := hbw30.trans (hbq.mono hbw30.size)
                  have hoz := own_below how30 hbq
                  have hzz := hbz.size
                  go_wp2_with (at_builtin; refine wpList_appM w32 (by rfl) _ _ (by rfl) w1.heap.size _ _ (by rfl) hoz vA _ vc _ hvs (by rw [show intsB [y.frame, (y.wins.l.length : Int)] = vint y.frame ++ intsB [(y.wins.l.length : Int)] from rfl, List.length_append]; omega) (by rfl) (by omega) hzz ?_; intro gw33 cw33 w33 L34 HL34 hnn hoy hfy hvg)
                  clear c0 c1
                  have kzw33 := kept_app kbw30 knw30 hbq hfy hvg
                  have kbw33 := kzw33.1
                  have knw33 := kzw33.2
                  clear kzw33 kbw30 knw30
                  have hbw33 := app_below hbz hoz hfy
                  have how33 := hoy
                  have nL34 : L34.length ≤ 1504433 + k25 * 3322 + 22 := by omega
                  clear hnn hoy hfy hvg
                  clear how30 hbw30 nL26 hlbw30
                  clear hbz hoz hzz hvs hbn hown hbp hbq hsl
                  clear hil hin
                  have c1 : w33.cell? ⟨g29, 1, none⟩ = some (.slice y.wins.A y.wins.l.length y.wins.c) := kbw33.cell 1
                  have hlbw33 := kbw33.lt
                  go_wp2_with fail
                  clear c1
                  go_loopw [5, 13] (fun v i wr => ∃ (k35 : Nat) (M : List UInt8), k35 ≤ y.wins.l.length ∧ i = .int .i64 (k35 : Int) ∧ Hid (M = L34 ++ (y.wins.l.take k35).flatMap encWn) ∧ M.length ≤ 1504433 + k25 * 3322 + 22 + k35 * 33 ∧ wr.ownsRow w1.heap.size 5 1 v M.length (M.map bv) ∧ Below w1.heap.size w1 wr ∧ Blk wr g29 58 #[.int .i64 y.frame, .slice y.wins.A y.wins.l.length y.wins.c] ∧ ¬ v.ownBlock = some g29) (fun _ i _ => y.wins.l.length - (intOf i).toNat)
                  case atStart => exact ⟨0, L34, Nat.zero_le _, rfl, (by unfold Hid; simp), by omega, how33, hbw33, kbw33, knw33⟩
                  case round =>
                    clear how33 hbw33 kbw33 knw33
                    obtain ⟨k35, L36, hk, rfl, HL36, nL36, hoR, hbR, kbR, knR⟩ := hrel
                    obtain ⟨w37, hWr⟩ : ∃ w : World, w = wr := ⟨_, rfl⟩
                    subst hWr
                    have how37 := hoR
                    have hbw37 := hbR
                    clear hoR hbR
                    have kbw37 := kbR
                    have knw37 := knR
                    clear kbR knR
                    by_cases hltk35 : k35 < y.wins.l.length
                    · have _d := True.intro
                      have hkMk35 : k35 * 33 ≤ 100 * 33 := Nat.mul_le_mul_right 33 (by omega)
                      have hKk35 := Lib.hid (show (y.wins.l.take (k35 + 1)).flatMap encWn = (y.wins.l.take k35).flatMap encWn ++ encWn (atD Wn0 y.wins.l k35) by rw [take_snocG Wn0 _ _ hltk35, List.flatMap_append]; simp)
                      have hyz := hyy.2.2 _ (atD_mem (d := Wn0) hltk35)
                      obtain ⟨ebz, eoz, hA, hebz, hec⟩ := hyy.2.1.at_ Wn0 hltk35
                      have HAz := Lib.hid hA
                      clear hA
                      have Xz0 : w1.cell? ⟨ebz, eoz + k35 * 3, none⟩ = some (.int .i64 (atD Wn0 y.wins.l k35).part) := hec 0 _ rfl
                      have Xz1 : w1.cell? ⟨ebz, eoz + k35 * 3 + 1, none⟩ = some (.int .i64 (atD Wn0 y.wins.l k35).start) := hec 1 _ rfl
                      have Xz2 : w1.cell? ⟨ebz, eoz + k35 * 3 + 2, none⟩ = some (.int .i64 (atD Wn0 y.wins.l k35).len) := hec 2 _ rfl
                      clear hec
                      generalize atD Wn0 y.wins.l k35 = z at hyz hKk35 Xz0 Xz1 Xz2
                      have i_z_part : i64 z.part := hyz.1
                      have i_z_start : i64 z.start := hyz.2.1
                      have i_z_len : i64 z.len := hyz.2.2
                      have c1 : w37.cell? ⟨g29, 1, none⟩ = some (.slice (some ⟨ebz, eoz, none⟩) y.wins.l.length y.wins.c) := by rw [← HAz.out]; exact kbw37.cell 1
                      have hlbw37 : g29 < w37.heap.size := kbw37.lt
                      have hle := Nat.lt_of_lt_of_le hebz hbw37.size
                      have x0 := (hbw37.cell (p := ⟨ebz, _, none⟩) hebz).trans Xz0
                      have x1 := (hbw37.cell (p := ⟨ebz, _, none⟩) hebz).trans Xz1
                      have x2 := (hbw37.cell (p := ⟨ebz, _, none⟩) hebz).trans Xz2
                      have hbp := (Below.refl w37.heap.size w37).alloc (Nat.le_refl _) (.cells #[.int .i64 z.part, .int .i64 z.start, .int .i64 z.len] 3)
                      have hsl := SlI.of_blk ((Blk.new w37 3 #[.int .i64 z.part, .int .i64 z.start, .int .i64 z.len]).drew) [z.part, z.start, z.len] rfl (show 3 ≤ 1000000 by omega) (fun z hz => by
                        simp only [List.mem_cons, List.mem_nil_iff, or_false] at hz
                        rcases hz with rfl | rfl | rfl <;> first | assumption | (unfold i64; omega))
                      replace hbp := hbp.drew
                      go_wp2_with fail
                      refine wp_region_fen (fun _ => False) [(19, 0), (0, 0), (0, 2)] (by kernel_rfl) (by kernel_rfl) ?_
                      simp only [wpSegsF, List.take, List.drop]
                      repeat (go_big_quiet_step (fail))
                      refine wpQuiet_nil (wpHeadF_want rfl (fun K' hK' => ?_))
                      go_wp2_with fail
                      refine hK' _ _ rfl (fr_graft (Fr.of_below hbp _)) ?_
                      clear hK' K'
                      generalize (w37.alloc (.cells #[.int .i64 z.part, .int .i64 z.start, .int .i64 z.len] 3)).drew = w38 at hbp hsl ⊢
                      try simp only [wpSegsF, List.take, List.drop]
                      repeat (go_big_quiet_step (fail))
                      refine wpQuiet_nil (wpHeadF_want rfl (fun K' hK' => ?_))
                      go_wp2_with fail
                      refine (refRow_any hsl (show 3 ≤ 1000 by omega)).mono ?_
                      rintro e w39 ⟨vv, rfl, hown, hbn⟩
                      obtain ⟨vA, vc, rfl, hvs, -⟩ := SlB.of_own hown
                      have hbq := hbp.trans (hbn.mono hbp.size)
                      refine hK' _ _ rfl (fr_graft (Fr.of_below hbq _)) ?_
                      clear hK' K'
                      try simp only [wpSegsF, List.take, List.drop]
                      repeat (go_big_quiet_step (fail))
                      refine wpQuiet_nil (wpHeadF_bar rfl (fun K' hK' => ?_))
                      have hil := vint_len z.part
                      have hin : (intsB [z.part, z.start, z.len]).length ≤ 33 := intsB_len [z.part, z.start, z.len]
                      have hbz := hbw37.trans (hbq.mono hbw37.size)
                      have hoz := own_below how37 hbq
                      have hzz := hbz.size
                      refine wp_appM w39 _ _ (by rfl) w1.heap.size _ _ (by rfl) hoz vA _ vc _ hvs (by rw [show intsB [z.part, z.start, z.len] = vint z.part ++ intsB [z.start, z.len] from rfl, List.length_append]; omega) (by rfl) (by omega) hzz ?_
                      intro gw40 cw40 w40 L41 HL41 hnn hoy hfy hvg
                      refine hK' _ _ (fun _ => False) rfl ?_
                      clear hK' K'
                      simp only [Act.put, List.setIfInBounds_toArray, List.set_cons_succ, List.set_cons_zero]
                      try simp only [wpSegsF]
                      repeat (go_big_quiet_step (fail))
                      refine wpQuiet_nil ?_
                      clear c1 hle x0 x1 x2
                      have kzw40 := kept_app kbw37 knw37 hbq hfy hvg
                      have kbw40 := kzw40.1
                      have knw40 := kzw40.2
                      clear kzw40 kbw37 knw37
                      have hbw40 := app_below hbz hoz hfy
                      have how40 := hoy
                      have nL41 : L41.length ≤ 1504433 + k25 * 3322 + 22 + k35 * 33 + 33 := by omega
                      clear hnn hoy hfy hvg
                      clear how37 hbw37 nL36 hlbw37
                      clear hbz hoz hzz hvs hbn hown hbp hbq hsl hil hin
                      go_wp2_with fail
                      exact ⟨⟨k35 + 1, L41, by omega, by go_num, (by unfold Hid; rw [hKk35.out, ← List.append_assoc, ← HL36.out]; rw [HL41.out]; (try unfold encWn); (try simp only)), by omega, how40, hbw40, kbw40, knw40⟩, by simp [intOf]; omega⟩
                    · obtain rfl : k35 = y.wins.l.length := by omega
                      have H2L36 := HL36
                      rw [List.take_length] at H2L36
                      clear HL36
                      have hkM : y.wins.l.length * 33 ≤ 100 * 33 := Nat.mul_le_mul_right 33 (by omega)
                      replace nL36 : L36.length ≤ 1504433 + k25 * 3322 + 3322 := by omega
                      clear hkM
                      have c1 : w37.cell? ⟨g29, 1, none⟩ = some (.slice y.wins.A y.wins.l.length y.wins.c) := kbw37.cell 1
                      have hlbw37 := kbw37.lt
                      go_wp2_with fail
                      exact ⟨⟨k25 + 1, L36, _, by omega, by go_num, (by unfold Hid; rw [hKk25.out, ← List.append_assoc, ← HL26.out]; rw [H2L36.out]; rw [HL34.out]; (try unfold encMd); (try simp only [lst, intsB2, List.append_assoc])), by omega, how37, hbw37, rfl, (by unfold Hid; rw [hKbk25.out, Bool.not_or, ← Bool.and_assoc, ← Hmb28.out, HBo.out, HMC.out]; try rfl)⟩, by simp [intOf]; omega⟩
              · obtain rfl : k25 = x.modes.l.length := by omega
                have H2L26 := HL26
                rw [List.take_length] at H2L26
                clear HL26
                have hkM : x.modes.l.length * 3322 ≤ 100 * 3322 := Nat.mul_le_mul_right 3322 (by omega)
                replace nL26 : L26.length ≤ 1836633 := by omega
                clear hkM
                have H2mb28 := Hmb28
                rw [List.take_length] at H2mb28
                clear Hmb28
                have c2 : w27.cell? ⟨wa.heap.size, 2, none⟩ = some (.slice x.modes.A x.modes.l.length x.modes.c) := (Blk.keep b1 hbw27).cell 2
                have c3 : w27.cell? ⟨wa.heap.size, 3, none⟩ = some (.slice x.pw.levels.A x.pw.levels.l.length x.pw.levels.c) := (Blk.keep b1 hbw27).cell 3
                have c4 : w27.cell? ⟨wa.heap.size, 4, none⟩ = some (.slice x.pw.naps.A x.pw.naps.l.length x.pw.naps.c) := (Blk.keep b1 hbw27).cell 4
                have c5 : w27.cell? ⟨wa.heap.size, 5, none⟩ = some (.int .i64 x.pw.sw) := (Blk.keep b1 hbw27).cell 5
                have c6 : w27.cell? ⟨wa.heap.size, 6, none⟩ = some (.int .i64 x.pw.idle) := (Blk.keep b1 hbw27).cell 6
                have c7 : w27.cell? ⟨wa.heap.size, 7, none⟩ = some (.int .i64 x.pw.change) := (Blk.keep b1 hbw27).cell 7
                have c8 : w27.cell? ⟨wa.heap.size, 8, none⟩ = some (.int .i64 x.pw.quant) := (Blk.keep b1 hbw27).cell 8
                have c9 : w27.cell? ⟨wa.heap.size, 9, none⟩ = some (.int .i64 x.pw.slow) := (Blk.keep b1 hbw27).cell 9
                have c10 : w27.cell? ⟨wa.heap.size, 10, none⟩ = some (.int .i64 x.pw.ppm) := (Blk.keep b1 hbw27).cell 10
                have hlbw27 : wa.heap.size < w27.heap.size := (Blk.keep b1 hbw27).lt
                go_upto_region 27 with fail
                have hbc := (Below.refl w27.heap.size w27).alloc (Nat.le_refl _) (.cells #[.slice x.pw.levels.A x.pw.levels.l.length x.pw.levels.c, .slice x.pw.naps.A x.pw.naps.l.length x.pw.naps.c, .int .i64 x.pw.sw, .int .i64 x.pw.idle, .int .i64 x.pw.change, .int .i64 x.pw.quant, .int .i64 x.pw.slow, .int .i64 x.pw.ppm] 28)
                have kbw43 := Blk.new w27 28 #[.slice x.pw.levels.A x.pw.levels.l.length x.pw.levels.c, .slice x.pw.naps.A x.pw.naps.l.length x.pw.naps.c, .int .i64 x.pw.sw, .int .i64 x.pw.idle, .int .i64 x.pw.change, .int .i64 x.pw.quant, .int .i64 x.pw.slow, .int .i64 x.pw.ppm]
                have hbw43 := hbw27.trans (hbc.mono hbw27.size)
                have knw43 := fun h => Nat.lt_irrefl _ (own_lt how27 w27.heap.size h)
                have how43 := own_below how27 hbc
                clear hbc
                clear c2 c3 c4 c5 c6 c7 c8 c9 c10
                clear how27 hbw27 hlbw27
                generalize w27.alloc (.cells #[.slice x.pw.levels.A x.pw.levels.l.length x.pw.levels.c, .slice x.pw.naps.A x.pw.naps.l.length x.pw.naps.c, .int .i64 x.pw.sw, .int .i64 x.pw.idle, .int .i64 x.pw.change, .int .i64 x.pw.quant, .int .i64 x.pw.slow, .int .i64 x.pw.ppm] 28) = w43 at kbw43 hbw43 how43 ⊢
                generalize w27.heap.size = g42 at kbw43 knw43 ⊢
                have c0 : w43.cell? ⟨g42, 0, none⟩ = some (.slice x.pw.levels.A x.pw.levels.l.length x.pw.levels.c) := kbw43.cell 0
                have hlbw43 := kbw43.lt
                go_wp2_with fail
                refine (refInt_any (n := (x.pw.levels.l.length : Int)) (by unfold i64; omega)).mono ?_
                rintro e w44 ⟨vv, rfl, hown, hbn⟩
                obtain ⟨vA, vc, rfl, hvs, -⟩ := SlB.of_own hown
                have hil := vint_len (x.pw.levels.l.length : Int)
                have hbz := hbw43.trans (hbn.mono hbw43.size)
                have hoz := own_below how43 hbn
                have hzz := hbz.size
                go_wp2_with (at_builtin; refine wpList_appM w44 (by rfl) _ _ (by rfl) w1.heap.size _ _ (by rfl) hoz vA _ vc _ hvs hil.1 (by rfl) (by omega) hzz ?_; intro gw45 cw45 w45 L46 HL46 hnn hoy hfy hvg)
                clear c0
                have kzw45 := kept_app kbw43 knw43 hbn hfy hvg
                have kbw45 := kzw45.1
                have knw45 := kzw45.2
                clear kzw45 kbw43 knw43
                have hbw45 := app_below hbz hoz hfy
                have how45 := hoy
                have nL46 : L46.length ≤ 1836644 := by omega
                clear hnn hoy hfy hvg
                clear how43 hbw43 nL26 hlbw43
                clear hbz hoz hzz hvs hbn hown
                clear hil
                have c0 : w45.cell? ⟨g42, 0, none⟩ = some (.slice x.pw.levels.A x.pw.levels.l.length x.pw.levels.c) := kbw45.cell 0
                have hlbw45 := kbw45.lt
                go_wp2_with fail
                clear c0
                go_loopw [5, 15] (fun v i wr => ∃ (k47 : Nat) (M : List UInt8), k47 ≤ x.pw.levels.l.length ∧ i = .int .i64 (k47 : Int) ∧ Hid (M = L46 ++ (x.pw.levels.l.take k47).flatMap encLv) ∧ M.length ≤ 1836644 + k47 * 22 ∧ wr.ownsRow w1.heap.size 5 1 v M.length (M.map bv) ∧ Below w1.heap.size w1 wr ∧ Blk wr g42 28 #[.slice x.pw.levels.A x.pw.levels.l.length x.pw.levels.c, .slice x.pw.naps.A x.pw.naps.l.length x.pw.naps.c, .int .i64 x.pw.sw, .int .i64 x.pw.idle, .int .i64 x.pw.change, .int .i64 x.pw.quant, .int .i64 x.pw.slow, .int .i64 x.pw.ppm] ∧ ¬ v.ownBlock = some g42) (fun _ i _ => x.pw.levels.l.length - (intOf i).toNat)
                case atStart => exact ⟨0, L46, Nat.zero_le _, rfl, (by unfold Hid; simp), by omega, how45, hbw45, kbw45, knw45⟩
                case round =>
                  clear how45 hbw45 kbw45 knw45
                  obtain ⟨k47, L48, hk, rfl, HL48, nL48, hoR, hbR, kbR, knR⟩ := hrel
                  obtain ⟨w49, hWr⟩ : ∃ w : World, w = wr := ⟨_, rfl⟩
                  subst hWr
                  have how49 := hoR
                  have hbw49 := hbR
                  clear hoR hbR
                  have kbw49 := kbR
                  have knw49 := knR
                  clear kbR knR
                  by_cases hltk47 : k47 < x.pw.levels.l.length
                  · have _d := True.intro
                    have hkMk47 : k47 * 22 ≤ 100 * 22 := Nat.mul_le_mul_right 22 (by omega)
                    have hKk47 := Lib.hid (show (x.pw.levels.l.take (k47 + 1)).flatMap encLv = (x.pw.levels.l.take k47).flatMap encLv ++ encLv (atD Lv0 x.pw.levels.l k47) by rw [take_snocG Lv0 _ _ hltk47, List.flatMap_append]; simp)
                    have hyy := (rdPw.keep hx.2.2.2.1 hb).1.2 _ (atD_mem (d := Lv0) hltk47)
                    obtain ⟨eby, eoy, hA, heby, hec⟩ := (rdPw.keep hx.2.2.2.1 hb).1.1.at_ Lv0 hltk47
                    have HAy := Lib.hid hA
                    clear hA
                    have Xy0 : w1.cell? ⟨eby, eoy + k47 * 2, none⟩ = some (.int .i64 (atD Lv0 x.pw.levels.l k47).freq) := hec 0 _ rfl
                    have Xy1 : w1.cell? ⟨eby, eoy + k47 * 2 + 1, none⟩ = some (.int .i64 (atD Lv0 x.pw.levels.l k47).power) := hec 1 _ rfl
                    clear hec
                    generalize atD Lv0 x.pw.levels.l k47 = y at hyy hKk47 Xy0 Xy1
                    have i_y_freq : i64 y.freq := hyy.1
                    have i_y_power : i64 y.power := hyy.2
                    have c0 : w49.cell? ⟨g42, 0, none⟩ = some (.slice (some ⟨eby, eoy, none⟩) x.pw.levels.l.length x.pw.levels.c) := by rw [← HAy.out]; exact kbw49.cell 0
                    have hlbw49 : g42 < w49.heap.size := kbw49.lt
                    have hle := Nat.lt_of_lt_of_le heby hbw49.size
                    have x0 := (hbw49.cell (p := ⟨eby, _, none⟩) heby).trans Xy0
                    have x1 := (hbw49.cell (p := ⟨eby, _, none⟩) heby).trans Xy1
                    have hbp := (Below.refl w49.heap.size w49).alloc (Nat.le_refl _) (.cells #[.int .i64 y.freq, .int .i64 y.power] 3)
                    have hsl := SlI.of_blk ((Blk.new w49 3 #[.int .i64 y.freq, .int .i64 y.power]).drew) [y.freq, y.power] rfl (show 2 ≤ 1000000 by omega) (fun z hz => by
                      simp only [List.mem_cons, List.mem_nil_iff, or_false] at hz
                      rcases hz with rfl | rfl <;> first | assumption | (unfold i64; omega))
                    replace hbp := hbp.drew
                    go_wp2_with fail
                    refine wp_region_fen (fun _ => False) [(13, 0), (0, 0), (0, 2)] (by kernel_rfl) (by kernel_rfl) ?_
                    simp only [wpSegsF, List.take, List.drop]
                    repeat (go_big_quiet_step (fail))
                    refine wpQuiet_nil (wpHeadF_want rfl (fun K' hK' => ?_))
                    go_wp2_with fail
                    refine hK' _ _ rfl (fr_graft (Fr.of_below hbp _)) ?_
                    clear hK' K'
                    generalize (w49.alloc (.cells #[.int .i64 y.freq, .int .i64 y.power] 3)).drew = w50 at hbp hsl ⊢
                    try simp only [wpSegsF, List.take, List.drop]
                    repeat (go_big_quiet_step (fail))
                    refine wpQuiet_nil (wpHeadF_want rfl (fun K' hK' => ?_))
                    go_wp2_with fail
                    refine (refRow_any hsl (show 2 ≤ 1000 by omega)).mono ?_
                    rintro e w51 ⟨vv, rfl, hown, hbn⟩
                    obtain ⟨vA, vc, rfl, hvs, -⟩ := SlB.of_own hown
                    have hbq := hbp.trans (hbn.mono hbp.size)
                    refine hK' _ _ rfl (fr_graft (Fr.of_below hbq _)) ?_
                    clear hK' K'
                    try simp only [wpSegsF, List.take, List.drop]
                    repeat (go_big_quiet_step (fail))
                    refine wpQuiet_nil (wpHeadF_bar rfl (fun K' hK' => ?_))
                    have hil := vint_len y.freq
                    have hin : (intsB [y.freq, y.power]).length ≤ 22 := intsB_len [y.freq, y.power]
                    have hbz := hbw49.trans (hbq.mono hbw49.size)
                    have hoz := own_below how49 hbq
                    have hzz := hbz.size
                    refine wp_appM w51 _ _ (by rfl) w1.heap.size _ _ (by rfl) hoz vA _ vc _ hvs (by rw [show intsB [y.freq, y.power] = vint y.freq ++ intsB [y.power] from rfl, List.length_append]; omega) (by rfl) (by omega) hzz ?_
                    intro gw52 cw52 w52 L53 HL53 hnn hoy hfy hvg
                    refine hK' _ _ (fun _ => False) rfl ?_
                    clear hK' K'
                    simp only [Act.put, List.setIfInBounds_toArray, List.set_cons_succ, List.set_cons_zero]
                    try simp only [wpSegsF]
                    repeat (go_big_quiet_step (fail))
                    refine wpQuiet_nil ?_
                    clear c0 hle x0 x1
                    have kzw52 := kept_app kbw49 knw49 hbq hfy hvg
                    have kbw52 := kzw52.1
                    have knw52 := kzw52.2
                    clear kzw52 kbw49 knw49
                    have hbw52 := app_below hbz hoz hfy
                    have how52 := hoy
                    have nL53 : L53.length ≤ 1836644 + k47 * 22 + 22 := by omega
                    clear hnn hoy hfy hvg
                    clear how49 hbw49 nL48 hlbw49
                    clear hbz hoz hzz hvs hbn hown hbp hbq hsl hil hin
                    go_wp2_with fail
                    exact ⟨⟨k47 + 1, L53, by omega, by go_num, (by unfold Hid; rw [hKk47.out, ← List.append_assoc, ← HL48.out]; rw [HL53.out]; (try unfold encLv); (try simp only [intsB2])), by omega, how52, hbw52, kbw52, knw52⟩, by simp [intOf]; omega⟩
                  · obtain rfl : k47 = x.pw.levels.l.length := by omega
                    have H2L48 := HL48
                    rw [List.take_length] at H2L48
                    clear HL48
                    have hkM : x.pw.levels.l.length * 22 ≤ 100 * 22 := Nat.mul_le_mul_right 22 (by omega)
                    replace nL48 : L48.length ≤ 1838844 := by omega
                    clear hkM
                    have c0 : w49.cell? ⟨g42, 0, none⟩ = some (.slice x.pw.levels.A x.pw.levels.l.length x.pw.levels.c) := kbw49.cell 0
                    have c1 : w49.cell? ⟨g42, 1, none⟩ = some (.slice x.pw.naps.A x.pw.naps.l.length x.pw.naps.c) := kbw49.cell 1
                    have hlbw49 := kbw49.lt
                    go_wp2_with fail
                    refine (refInt_any (n := (x.pw.naps.l.length : Int)) (by unfold i64; omega)).mono ?_
                    rintro e w54 ⟨vv, rfl, hown, hbn⟩
                    obtain ⟨vA, vc, rfl, hvs, -⟩ := SlB.of_own hown
                    have hil := vint_len (x.pw.naps.l.length : Int)
                    have hbz := hbw49.trans (hbn.mono hbw49.size)
                    have hoz := own_below how49 hbn
                    have hzz := hbz.size
                    go_wp2_with (at_builtin; refine wpList_appM w54 (by rfl) _ _ (by rfl) w1.heap.size _ _ (by rfl) hoz vA _ vc _ hvs hil.1 (by rfl) (by omega) hzz ?_; intro gw55 cw55 w55 L56 HL56 hnn hoy hfy hvg)
                    clear c0 c1
                    have kzw55 := kept_app kbw49 knw49 hbn hfy hvg
                    have kbw55 := kzw55.1
                    have knw55 := kzw55.2
                    clear kzw55 kbw49 knw49
                    have hbw55 := app_below hbz hoz hfy
                    have how55 := hoy
                    have nL56 : L56.length ≤ 1838855 := by omega
                    clear hnn hoy hfy hvg
                    clear how49 hbw49 nL48 hlbw49
                    clear hbz hoz hzz hvs hbn hown
                    clear hil
                    have c1 : w55.cell? ⟨g42, 1, none⟩ = some (.slice x.pw.naps.A x.pw.naps.l.length x.pw.naps.c) := kbw55.cell 1
                    have hlbw55 := kbw55.lt
                    go_wp2_with fail
                    clear c1
                    go_loopw [5, 16] (fun v i wr => ∃ (k57 : Nat) (M : List UInt8), k57 ≤ x.pw.naps.l.length ∧ i = .int .i64 (k57 : Int) ∧ Hid (M = L56 ++ (x.pw.naps.l.take k57).flatMap encNp) ∧ M.length ≤ 1838855 + k57 * 33 ∧ wr.ownsRow w1.heap.size 5 1 v M.length (M.map bv) ∧ Below w1.heap.size w1 wr ∧ Blk wr g42 28 #[.slice x.pw.levels.A x.pw.levels.l.length x.pw.levels.c, .slice x.pw.naps.A x.pw.naps.l.length x.pw.naps.c, .int .i64 x.pw.sw, .int .i64 x.pw.idle, .int .i64 x.pw.change, .int .i64 x.pw.quant, .int .i64 x.pw.slow, .int .i64 x.pw.ppm] ∧ ¬ v.ownBlock = some g42) (fun _ i _ => x.pw.naps.l.length - (intOf i).toNat)
                    case atStart => exact ⟨0, L56, Nat.zero_le _, rfl, (by unfold Hid; simp), by omega, how55, hbw55, kbw55, knw55⟩
                    case round =>
                      clear how55 hbw55 kbw55 knw55
                      obtain ⟨k57, L58, hk, rfl, HL58, nL58, hoR, hbR, kbR, knR⟩ := hrel
                      obtain ⟨w59, hWr⟩ : ∃ w : World, w = wr := ⟨_, rfl⟩
                      subst hWr
                      have how59 := hoR
                      have hbw59 := hbR
                      clear hoR hbR
                      have kbw59 := kbR
                      have knw59 := knR
                      clear kbR knR
                      by_cases hltk57 : k57 < x.pw.naps.l.length
                      · have _d := True.intro
                        have hkMk57 : k57 * 33 ≤ 100 * 33 := Nat.mul_le_mul_right 33 (by omega)
                        have hKk57 := Lib.hid (show (x.pw.naps.l.take (k57 + 1)).flatMap encNp = (x.pw.naps.l.take k57).flatMap encNp ++ encNp (atD Np0 x.pw.naps.l k57) by rw [take_snocG Np0 _ _ hltk57, List.flatMap_append]; simp)
                        have hyy := (rdPw.keep hx.2.2.2.1 hb).2.1.2 _ (atD_mem (d := Np0) hltk57)
                        obtain ⟨eby, eoy, hA, heby, hec⟩ := (rdPw.keep hx.2.2.2.1 hb).2.1.1.at_ Np0 hltk57
                        have HAy := Lib.hid hA
                        clear hA
                        have Xy0 : w1.cell? ⟨eby, eoy + k57 * 3, none⟩ = some (.int .i64 (atD Np0 x.pw.naps.l k57).power) := hec 0 _ rfl
                        have Xy1 : w1.cell? ⟨eby, eoy + k57 * 3 + 1, none⟩ = some (.int .i64 (atD Np0 x.pw.naps.l k57).enter) := hec 1 _ rfl
                        have Xy2 : w1.cell? ⟨eby, eoy + k57 * 3 + 2, none⟩ = some (.int .i64 (atD Np0 x.pw.naps.l k57).wake) := hec 2 _ rfl
                        clear hec
                        generalize atD Np0 x.pw.naps.l k57 = y at hyy hKk57 Xy0 Xy1 Xy2
                        have i_y_power : i64 y.power := hyy.1
                        have i_y_enter : i64 y.enter := hyy.2.1
                        have i_y_wake : i64 y.wake := hyy.2.2
                        have c1 : w59.cell? ⟨g42, 1, none⟩ = some (.slice (some ⟨eby, eoy, none⟩) x.pw.naps.l.length x.pw.naps.c) := by rw [← HAy.out]; exact kbw59.cell 1
                        have hlbw59 : g42 < w59.heap.size := kbw59.lt
                        have hle := Nat.lt_of_lt_of_le heby hbw59.size
                        have x0 := (hbw59.cell (p := ⟨eby, _, none⟩) heby).trans Xy0
                        have x1 := (hbw59.cell (p := ⟨eby, _, none⟩) heby).trans Xy1
                        have x2 := (hbw59.cell (p := ⟨eby, _, none⟩) heby).trans Xy2
                        have hbp := (Below.refl w59.heap.size w59).alloc (Nat.le_refl _) (.cells #[.int .i64 y.power, .int .i64 y.enter, .int .i64 y.wake] 3)
                        have hsl := SlI.of_blk ((Blk.new w59 3 #[.int .i64 y.power, .int .i64 y.enter, .int .i64 y.wake]).drew) [y.power, y.enter, y.wake] rfl (show 3 ≤ 1000000 by omega) (fun z hz => by
                          simp only [List.mem_cons, List.mem_nil_iff, or_false] at hz
                          rcases hz with rfl | rfl | rfl <;> first | assumption | (unfold i64; omega))
                        replace hbp := hbp.drew
                        go_wp2_with fail
                        refine wp_region_fen (fun _ => False) [(19, 0), (0, 0), (0, 2)] (by kernel_rfl) (by kernel_rfl) ?_
                        simp only [wpSegsF, List.take, List.drop]
                        repeat (go_big_quiet_step (fail))
                        refine wpQuiet_nil (wpHeadF_want rfl (fun K' hK' => ?_))
                        go_wp2_with fail
                        refine hK' _ _ rfl (fr_graft (Fr.of_below hbp _)) ?_
                        clear hK' K'
                        generalize (w59.alloc (.cells #[.int .i64 y.power, .int .i64 y.enter, .int .i64 y.wake] 3)).drew = w60 at hbp hsl ⊢
                        try simp only [wpSegsF, List.take, List.drop]
                        repeat (go_big_quiet_step (fail))
                        refine wpQuiet_nil (wpHeadF_want rfl (fun K' hK' => ?_))
                        go_wp2_with fail
                        refine (refRow_any hsl (show 3 ≤ 1000 by omega)).mono ?_
                        rintro e w61 ⟨vv, rfl, hown, hbn⟩
                        obtain ⟨vA, vc, rfl, hvs, -⟩ := SlB.of_own hown
                        have hbq := hbp.trans (hbn.mono hbp.size)
                        refine hK' _ _ rfl (fr_graft (Fr.of_below hbq _)) ?_
                        clear hK' K'
                        try simp only [wpSegsF, List.take, List.drop]
                        repeat (go_big_quiet_step (fail))
                        refine wpQuiet_nil (wpHeadF_bar rfl (fun K' hK' => ?_))
                        have hil := vint_len y.power
                        have hin : (intsB [y.power, y.enter, y.wake]).length ≤ 33 := intsB_len [y.power, y.enter, y.wake]
                        have hbz := hbw59.trans (hbq.mono hbw59.size)
                        have hoz := own_below how59 hbq
                        have hzz := hbz.size
                        refine wp_appM w61 _ _ (by rfl) w1.heap.size _ _ (by rfl) hoz vA _ vc _ hvs (by rw [show intsB [y.power, y.enter, y.wake] = vint y.power ++ intsB [y.enter, y.wake] from rfl, List.length_append]; omega) (by rfl) (by omega) hzz ?_
                        intro gw62 cw62 w62 L63 HL63 hnn hoy hfy hvg
                        refine hK' _ _ (fun _ => False) rfl ?_
                        clear hK' K'
                        simp only [Act.put, List.setIfInBounds_toArray, List.set_cons_succ, List.set_cons_zero]
                        try simp only [wpSegsF]
                        repeat (go_big_quiet_step (fail))
                        refine wpQuiet_nil ?_
                        clear c1 hle x0 x1 x2
                        have kzw62 := kept_app kbw59 knw59 hbq hfy hvg
                        have kbw62 := kzw62.1
                        have knw62 := kzw62.2
                        clear kzw62 kbw59 knw59
                        have hbw62 := app_below hbz hoz hfy
                        have how62 := hoy
                        have nL63 : L63.length ≤ 1838855 + k57 * 33 + 33 := by omega
                        clear hnn hoy hfy hvg
                        clear how59 hbw59 nL58 hlbw59
                        clear hbz hoz hzz hvs hbn hown hbp hbq hsl hil hin
                        go_wp2_with fail
                        exact ⟨⟨k57 + 1, L63, by omega, by go_num, (by unfold Hid; rw [hKk57.out, ← List.append_assoc, ← HL58.out]; rw [HL63.out]; (try unfold encNp); (try simp only)), by omega, how62, hbw62, kbw62, knw62⟩, by simp [intOf]; omega⟩
                      · obtain rfl : k57 = x.pw.naps.l.length := by omega
                        have H2L58 := HL58
                        rw [List.take_length] at H2L58
                        clear HL58
                        have hkM : x.pw.naps.l.length * 33 ≤ 100 * 33 := Nat.mul_le_mul_right 33 (by omega)
                        replace nL58 : L58.length ≤ 1842155 := by omega
                        clear hkM
                        have j2 : i64 x.pw.sw := hx.2.2.2.1.2.2.1
                        have j3 : i64 x.pw.idle := hx.2.2.2.1.2.2.2.1
                        have j4 : i64 x.pw.change := hx.2.2.2.1.2.2.2.2.1
                        have j5 : i64 x.pw.quant := hx.2.2.2.1.2.2.2.2.2.1
                        have j6 : i64 x.pw.slow := hx.2.2.2.1.2.2.2.2.2.2.1
                        have j7 : i64 x.pw.ppm := hx.2.2.2.1.2.2.2.2.2.2.2
                        have c1 : w59.cell? ⟨g42, 1, none⟩ = some (.slice x.pw.naps.A x.pw.naps.l.length x.pw.naps.c) := kbw59.cell 1
                        have c2 : w59.cell? ⟨g42, 2, none⟩ = some (.int .i64 x.pw.sw) := kbw59.cell 2
                        have c3 : w59.cell? ⟨g42, 3, none⟩ = some (.int .i64 x.pw.idle) := kbw59.cell 3
                        have c4 : w59.cell? ⟨g42, 4, none⟩ = some (.int .i64 x.pw.change) := kbw59.cell 4
                        have c5 : w59.cell? ⟨g42, 5, none⟩ = some (.int .i64 x.pw.quant) := kbw59.cell 5
                        have c6 : w59.cell? ⟨g42, 6, none⟩ = some (.int .i64 x.pw.slow) := kbw59.cell 6
                        have c7 : w59.cell? ⟨g42, 7, none⟩ = some (.int .i64 x.pw.ppm) := kbw59.cell 7
                        have hlbw59 := kbw59.lt
                        have hbp := (Below.refl w59.heap.size w59).alloc (Nat.le_refl _) (.cells #[.int .i64 x.pw.sw, .int .i64 x.pw.idle, .int .i64 x.pw.change, .int .i64 x.pw.quant, .int .i64 x.pw.slow, .int .i64 x.pw.ppm] 3)
                        have hsl := SlI.of_blk (Blk.new w59 3 #[.int .i64 x.pw.sw, .int .i64 x.pw.idle, .int .i64 x.pw.change, .int .i64 x.pw.quant, .int .i64 x.pw.slow, .int .i64 x.pw.ppm]) [x.pw.sw, x.pw.idle, x.pw.change, x.pw.quant, x.pw.slow, x.pw.ppm] rfl (show 6 ≤ 1000000 by omega) (fun z hz => by
                          simp only [List.mem_cons, List.mem_nil_iff, or_false] at hz
                          rcases hz with rfl | rfl | rfl | rfl | rfl | rfl <;> first | assumption | (unfold i64; omega))
                        go_wp2_with fail
                        refine (refRow_any hsl (show 6 ≤ 1000 by omega)).mono ?_
                        rintro e w64 ⟨vv, rfl, hown, hbn⟩
                        obtain ⟨vA, vc, rfl, hvs, -⟩ := SlB.of_own hown
                        have hil := vint_len x.pw.sw
                        have hin : (intsB [x.pw.sw, x.pw.idle, x.pw.change, x.pw.quant, x.pw.slow, x.pw.ppm]).length ≤ 66 := intsB_len [x.pw.sw, x.pw.idle, x.pw.change, x.pw.quant, x.pw.slow, x.pw.ppm]
                        have hbq := hbp.trans (hbn.mono hbp.size)
                        have hbz := hbw59.trans (hbq.mono hbw59.size)
                        have hoz := own_below how59 hbq
                        have hzz := hbz.size
                        go_upto_region 38 with (at_builtin; refine wpList_appM w64 (by rfl) _ _ (by rfl) w1.heap.size _ _ (by rfl) hoz vA _ vc _ hvs (by rw [show intsB [x.pw.sw, x.pw.idle, x.pw.change, x.pw.quant, x.pw.slow, x.pw.ppm] = vint x.pw.sw ++ intsB [x.pw.idle, x.pw.change, x.pw.quant, x.pw.slow, x.pw.ppm] from rfl, List.length_append]; omega) (by rfl) (by omega) hzz ?_; intro gw65 cw65 w65 L66 HL66 hnn hoy hfy hvg)
                        clear c1 c2 c3 c4 c5 c6 c7
                        have kzw65 := kept_app kbw59 knw59 hbq hfy hvg
                        have kbw65 := kzw65.1
                        have knw65 := kzw65.2
                        clear kzw65 kbw59 knw59
                        have hbw65 := app_below hbz hoz hfy
                        have how65 := hoy
                        have nL66 : L66.length ≤ 1842221 := by omega
                        clear hnn hoy hfy hvg
                        clear how59 hbw59 nL58 hlbw59
                        clear hbz hoz hzz hvs hbn hown hbp hbq hsl
                        clear hil hin
                        clear j2 j3 j4 j5 j6 j7 kbw65 knw65
                        have hsn := SlI.keep hx.2.2.2.2.1 (hb.trans (hbw65.mono hb.size))
                        have c11 : w65.cell? ⟨wa.heap.size, 11, none⟩ = some (.slice x.shed.down.A x.shed.down.l.length x.shed.down.c) := (Blk.keep b1 hbw65).cell 11
                        have hlbw65 : wa.heap.size < w65.heap.size := (Blk.keep b1 hbw65).lt
                        go_wp2_with fail
                        refine (refInts_any hsn (by omega)).mono ?_
                        rintro e w67 ⟨vv, rfl, hown, hbn⟩
                        obtain ⟨vA, vc, rfl, hvs, -⟩ := SlB.of_own hown
                        have hil := vint_len (x.shed.down.l.length : Int)
                        have hin : (lst vint x.shed.down.l).length ≤ 1111 := lst_len vint _ (fun y _ => vint_le y) hs6
                        have hbz := hbw65.trans (hbn.mono hbw65.size)
                        have hoz := own_below how65 hbn
                        have hzz := hbz.size
                        go_upto_region 39 with (at_builtin; refine wpList_appM w67 (by rfl) _ _ (by rfl) w1.heap.size _ _ (by rfl) hoz vA _ vc _ hvs (by rw [lst_ints, List.length_append]; omega) (by rfl) (by omega) hzz ?_; intro gw68 cw68 w68 L69 HL69 hnn hoy hfy hvg)
                        clear c11
                        have hbw68 := app_below hbz hoz hfy
                        have how68 := hoy
                        have nL69 : L69.length ≤ 1843332 := by omega
                        clear hnn hoy hfy hvg
                        clear how65 hbw65 nL66 hlbw65
                        clear hbz hoz hzz hvs hbn hown
                        clear hil hin hsn
                        have hsn := SlI.keep hx.2.2.2.2.2 (hb.trans (hbw68.mono hb.size))
                        have c12 : w68.cell? ⟨wa.heap.size, 12, none⟩ = some (.slice x.shed.up.A x.shed.up.l.length x.shed.up.c) := (Blk.keep b1 hbw68).cell 12
                        have hlbw68 : wa.heap.size < w68.heap.size := (Blk.keep b1 hbw68).lt
                        go_wp2_with fail
                        refine (refInts_any hsn (by omega)).mono ?_
                        rintro e w70 ⟨vv, rfl, hown, hbn⟩
                        obtain ⟨vA, vc, rfl, hvs, -⟩ := SlB.of_own hown
                        have hil := vint_len (x.shed.up.l.length : Int)
                        have hin : (lst vint x.shed.up.l).length ≤ 1111 := lst_len vint _ (fun y _ => vint_le y) hs7
                        have hbz := hbw68.trans (hbn.mono hbw68.size)
                        have hoz := own_below how68 hbn
                        have hzz := hbz.size
                        go_upto_region 40 with (at_builtin; refine wpList_appM w70 (by rfl) _ _ (by rfl) w1.heap.size _ _ (by rfl) hoz vA _ vc _ hvs (by rw [lst_ints, List.length_append]; omega) (by rfl) (by omega) hzz ?_; intro gw71 cw71 w71 L72 HL72 hnn hoy hfy hvg)
                        clear c12
                        have hbw71 := app_below hbz hoz hfy
                        have how71 := hoy
                        have nL72 : L72.length ≤ 1844443 := by omega
                        clear hnn hoy hfy hvg
                        clear how68 hbw68 nL69 hlbw68
                        clear hbz hoz hzz hvs hbn hown
                        clear hil hin hsn
                        have he : Hid (L72 = encCf x) := by
                          unfold Hid
                          rw [HL72.out, HL69.out, HL66.out, H2L58.out, HL56.out, H2L48.out, HL46.out, H2L26.out, HL24.out, H2L15.out, HL13.out, H2L5.out, HL3.out]
                          unfold encCf encPw
                          simp only [lst, List.append_assoc]
                        have hbd : Hid ((!mb28) = badCf x) := by
                          unfold Hid
                          rw [H2mb28.out, H2mb7.out, ← HM.out]
                          unfold mayTop badCf badPw
                          simp only [badL_split, any_noB, Bool.or_false]
                          exact may_eq _ _ _ _ _ _ _ _ _
                        have hos := own_mono how71 (Nat.le_of_lt hz1)
                        have hBB := hb.trans (hbw71.mono hb.size)
                        cases mb28 with
                        | false =>
                          have HX : Hid (encBad x = true) := by unfold Hid encBad; rw [← hbd.out]; rfl
                          clear hbd
                          go_wp2_with fail
                          go_ret2
                          exact ⟨_, _, rfl, by rw [HX.out]; rfl, by unfold encOut; rw [HX.out]; exact World.ownsRow_nil _ _ _ _, hBB⟩
                        | true =>
                          by_cases hln : 65536 < L72.length
                          · have HX : Hid (encBad x = true) := by unfold Hid encBad; rw [← hbd.out, ← he.out]; simp [hln]
                            clear hbd
                            go_wp2_with fail
                            go_ret2
                            exact ⟨_, _, rfl, by rw [HX.out]; rfl, by unfold encOut; rw [HX.out]; exact World.ownsRow_nil _ _ _ _, hBB⟩
                          · have HX : Hid (encBad x = false) := by unfold Hid encBad; rw [← hbd.out, ← he.out]; simp; omega
                            clear hbd
                            go_wp2_with fail
                            go_ret2
                            exact ⟨_, _, rfl, by rw [HX.out]; rfl, by unfold encOut; rw [HX.out, if_neg Bool.false_ne_true, ← he.out]; exact hos, hBB⟩
end Go.Proofs.YtahjnonkhbpnpaaGreat
/- Reading numbers from bytes: the plain law. No program here. -/
namespace Go.Proofs.YtahjnonkhbpnpaaGreat
/-- what comes of reading a word: the number and what is left; the bytes end; they have another form -/
inductive RdO where
  | ok (u : Nat) (rest : List UInt8)
  | cut
  | form (rest : List UInt8)
def okB (i : Nat) (x : UInt8) : Bool := !(decide (i = 9) && decide (1 < x.toNat)) && !(decide (0 < i) && decide (x.toNat = 0))
def rdW : List UInt8 → Nat → Nat → RdO
  | [], _, _ => .cut
  | x :: r, i, acc => if okB i x then (if x.toNat < 128 then .ok (acc + x.toNat % 128 * 128 ^ i) r else rdW r (i + 1) (acc + x.toNat % 128 * 128 ^ i)) else .form r
/-- the number that stands for u -/
def unt (u : Nat) : Int := if u % 2 = 1 then -((u / 2 : Nat) : Int) - 1 else ((u / 2 : Nat) : Int)
theorem unt_tnd (n : Int) : unt (tnd n) = n := by
  unfold unt tnd
  split <;> split <;> omega
theorem tnd_unt (u : Nat) : tnd (unt u) = u := by
  unfold unt tnd
  split <;> split <;> omega
theorem unt_rng {u : Nat} (h : u < 18446744073709551616) : i64 (unt u) := by
  unfold unt i64
  split <;> omega
/-- a reader: the bytes that are left, and the first error -/
structure RS where
  (l : List UInt8) (e : Int)
/-- reading a number -/
def gInt (s : RS) : Int × RS :=
  if s.e ≠ 0 then (0, s) else
  match rdW s.l 0 0 with
  | .ok u r => (unt u, ⟨r, 0⟩)
  | .cut => (0, ⟨[], 10⟩)
  | .form r => (0, ⟨r, 12⟩)
def gBool (s : RS) : Bool × RS :=
  if s.e ≠ 0 then (false, s) else
  match s.l with
  | [] => (false, ⟨[], 10⟩)
  | x :: r => if 1 < x.toNat then (false, ⟨r, 12⟩) else (decide (x.toNat = 1), ⟨r, 0⟩)
/-- n numbers, as long as there is no error -/
def gInts : Nat → RS → List Int × RS
  | 0, s => ([], s)
  | n + 1, s => if s.e ≠ 0 then ([], s) else ((gInt s).1 :: (gInts n (gInt s).2).1, (gInts n (gInt s).2).2)
theorem okB_u {i : Nat} {x : UInt8} (h : okB i x = true) : (i = 9 → x.toNat ≤ 1) ∧ (0 < i → 0 < x.toNat) := by
  unfold okB at h
  simp only [Bool.and_eq_true, Bool.not_eq_true', Bool.and_eq_false_iff, decide_eq_false_iff_not] at h
  omega
theorem okB_of {i : Nat} {x : UInt8} (h1 : i = 9 → x.toNat ≤ 1) (h2 : 0 < i → 0 < x.toNat) : okB i x = true := by
  unfold okB
  simp only [Bool.and_eq_true, Bool.not_eq_true', Bool.and_eq_false_iff, decide_eq_false_iff_not]
  omega
/-- a word's bytes are read, whatever is behind -/
theorem rdW_vb {k u i acc : Nat} (hi : i + k ≤ 10) (hu : u < 128 ^ (k + 1)) (h0 : 0 < i → 0 < u) (h9 : u * 128 ^ i < 18446744073709551616) (s : List UInt8) : rdW (vb k u ++ s) i acc = .ok (acc + u * 128 ^ i) s := by
  induction k generalizing u i acc with
  | zero =>
    have hu' : u < 128 := by simpa using hu
    simp only [vb, List.cons_append, List.nil_append, rdW]
    rw [ob_toNat (by omega), if_pos, if_pos hu', Nat.mod_eq_of_lt hu']
    refine okB_of (fun h => ?_) (fun h => ?_)
    · subst h
      rw [ob_toNat (by omega)]
      omega
    · rw [ob_toNat (by omega)]
      exact h0 h
  | succ k ih =>
    by_cases h1 : 128 ≤ u
    · rw [vb_more h1]
      simp only [List.cons_append, rdW]
      have hi9 : i ≠ 9 := by
        intro h
        subst h
        have : 128 * 128 ^ 9 ≤ u * 128 ^ 9 := Nat.mul_le_mul_right _ h1
        omega
      rw [ob_toNat (by omega), if_pos (okB_of (fun h => absurd h hi9) (fun _ => by rw [ob_toNat (by omega)]; omega)), if_neg (by omega)]
      have hq : u / 128 * 128 ^ (i + 1) ≤ u * 128 ^ i := by
        rw [Nat.pow_succ, Nat.mul_comm (128 ^ i) 128, ← Nat.mul_assoc]
        exact Nat.mul_le_mul_right _ (Nat.div_mul_le_self u 128)
      rw [ih (u := u / 128) (i := i + 1) (by omega) (Nat.div_lt_of_lt_mul (by rw [Nat.mul_comm, ← Nat.pow_succ]; exact hu)) (fun _ => by omega) (by omega)]
      congr 1
      rw [show (u % 128 + 128) % 128 = u % 128 by omega, Nat.pow_succ, Nat.mul_comm (128 ^ i) 128, ← Nat.mul_assoc, Nat.add_assoc, ← Nat.add_mul]
      congr 2
      omega
    · rw [vb_last (by omega)]
      simp only [List.cons_append, List.nil_append, rdW]
      rw [ob_toNat (by omega), if_pos, if_pos (by omega), Nat.mod_eq_of_lt (by omega)]
      refine okB_of (fun h => ?_) (fun h => ?_)
      · subst h
        rw [ob_toNat (by omega)]
        omega
      · rw [ob_toNat (by omega)]
        exact h0 h
theorem gInt_vint {n : Int} (hn : i64 n) (s : List UInt8) : gInt ⟨vint n ++ s, 0⟩ = (n, ⟨s, 0⟩) := by
  have hlt := tnd_lt hn
  unfold gInt vint
  rw [if_neg (by simp), rdW_vb (by decide) (Nat.lt_of_lt_of_le hlt (by decide)) (fun h => absurd h (by decide)) (by simpa using hlt)]
  simp [unt_tnd]
end Go.Proofs.YtahjnonkhbpnpaaGreat
/- x[lo:hi] of a slice that is read: its cells, and the run of the operation (the address hidden in slA). -/
namespace Go.Proofs.YtahjnonkhbpnpaaGreat
open Go.RowKit
def slA (A : Option Addr) (lo c s : Nat) : Option Addr := if c = lo then A else A.map (·.add (lo * s))
section
variable {w : World} {A : Option Addr} {n c sz : Nat} {xs : List Value}
theorem Sl.cut (h : Sl w A n c sz xs) {lo hi : Nat} (h1 : lo ≤ hi) (h2 : hi ≤ n) : Sl w (slA A lo c sz) (hi - lo) (c - lo) sz ((xs.drop (lo * sz)).take ((hi - lo) * sz)) := by
  obtain ⟨hl, hnc, hcm, hnil, hat⟩ := h
  refine ⟨?_, by omega, by omega, fun hn => ?_, fun hp => ?_⟩
  · rw [List.length_take, List.length_drop, hl, ← Nat.sub_mul]
    exact Nat.min_eq_left (Nat.mul_le_mul_right _ (by omega))
  · unfold slA at hn
    split at hn
    · omega
    · cases A with
      | none => rw [hnil rfl]; omega
      | some a => simp at hn
  · obtain ⟨b, o, rfl, hb, hc⟩ := hat (by omega)
    refine ⟨b, o + lo * sz, ?_, hb, fun j u hu => ?_⟩
    · unfold slA
      rw [if_neg (by omega)]
      simp [add_none]
    · rw [List.getElem?_take] at hu
      split at hu
      · rw [List.getElem?_drop] at hu
        rw [Nat.add_assoc]
        exact hc _ u hu
      · cases hu
end
theorem flat_cut {α : Type} {f : α → List Value} {sz : Nat} (l : List α) (hf : ∀ x ∈ l, (f x).length = sz) (lo m : Nat) : ((l.flatMap f).drop (lo * sz)).take (m * sz) = ((l.drop lo).take m).flatMap f := by
  have hd : ∀ (l : List α), (∀ x ∈ l, (f x).length = sz) → ∀ lo, (l.flatMap f).drop (lo * sz) = (l.drop lo).flatMap f := by
    intro l
    induction l with
    | nil => intro _ lo; simp
    | cons x l ih =>
      intro hf lo
      cases lo with
      | zero => simp
      | succ lo =>
        have hx := hf x (by simp)
        rw [List.drop_succ_cons, List.flatMap_cons, ← ih (fun y hy => hf y (by simp [hy])) lo, List.drop_append, hx, Nat.add_mul, Nat.one_mul]
        rw [List.drop_eq_nil_of_le (by omega), List.nil_append, show lo * sz + sz - sz = lo * sz by omega]
  have ht : ∀ (l : List α), (∀ x ∈ l, (f x).length = sz) → ∀ m, (l.flatMap f).take (m * sz) = (l.take m).flatMap f := by
    intro l
    induction l with
    | nil => intro _ m; simp
    | cons x l ih =>
      intro hf m
      cases m with
      | zero => simp
      | succ m =>
        have hx := hf x (by simp)
        rw [List.take_succ_cons, List.flatMap_cons, List.flatMap_cons, ← ih (fun y hy => hf y (by simp [hy])) m, List.take_append, hx, Nat.add_mul, Nat.one_mul]
        rw [List.take_of_length_le (by omega), show m * sz + sz - sz = m * sz by omega]
  rw [hd l hf lo, ht (l.drop lo) (fun x hx => hf x (List.mem_of_mem_drop hx)) m]
theorem SlG.cut {α : Type} {f : α → List Value} {w : World} {A : Option Addr} {n c sz : Nat} {l : List α} (h : SlG w A n c sz f l) {lo hi : Nat} (h1 : lo ≤ hi) (h2 : hi ≤ n) : SlG w (slA A lo c sz) (hi - lo) (c - lo) sz f ((l.drop lo).take (hi - lo)) := by
  obtain ⟨hs, hl, hf⟩ := h
  refine ⟨?_, by rw [List.length_take, List.length_drop]; omega, fun x hx => hf x (List.mem_of_mem_drop (List.mem_of_mem_take hx))⟩
  rw [← flat_cut l hf]
  exact hs.cut h1 h2
theorem SlI.cut {w : World} {A : Option Addr} {n c : Nat} {l : List Int} (h : SlI w A n c l) {lo hi : Nat} (h1 : lo ≤ hi) (h2 : hi ≤ n) : SlI w (slA A lo c 1) (hi - lo) (c - lo) ((l.drop lo).take (hi - lo)) := by
  have := h.1.cut h1 h2
  refine ⟨by simpa [List.map_drop, List.map_take] using this, ?_, fun x hx => h.2.2 x (List.mem_of_mem_drop (List.mem_of_mem_take hx))⟩
  have := h.2.1
  rw [List.length_take, List.length_drop]
  omega
theorem SlB.cut {w : World} {A : Option Addr} {n c : Nat} {l : List UInt8} (h : SlB w A n c l) {lo hi : Nat} (h1 : lo ≤ hi) (h2 : hi ≤ n) : SlB w (slA A lo c 1) (hi - lo) (c - lo) ((l.drop lo).take (hi - lo)) := by
  have := h.1.cut h1 h2
  refine ⟨by simpa [List.map_drop, List.map_take] using this, ?_⟩
  have := h.2
  rw [List.length_take, List.length_drop]
  omega
section
variable {P : Program} {t : TypeId} {s : Nat} (ht : P.underlying t = some (.slice (P.elem t))) (hs : ∀ w, (sizeOf (P.elem t)).run P w = .ok s w) (w : World) (A : Option Addr) (n c lo hi : Nat)
include ht hs
theorem run_cut_lh (h1 : lo ≤ hi) (h2 : hi ≤ c) : (Instr.sliceAt t (.slice A n c) (some (.int .i64 lo)) (some (.int .i64 hi)) none).run P w = .ok (.slice (slA A lo c s) (hi - lo) (c - lo)) w := by
  rw [run_sliceAt_slice w t _ _ _ _ ht, run_slice_lh w t A n c ht .i64 .i64 lo hi (by omega) (by omega) (by omega), hs]
  simp only [Result.andThen_ok, sliced, slA, Int.toNat_natCast]
theorem run_cut_h (h2 : hi ≤ c) : (Instr.sliceAt t (.slice A n c) none (some (.int .i64 hi)) none).run P w = .ok (.slice (slA A 0 c s) hi c) w := by
  rw [run_sliceAt_slice w t _ _ _ _ ht, run_slice_h w t A n c ht .i64 hi (by omega) (by omega), hs]
  simp only [Result.andThen_ok, sliced, slA, Int.toNat_natCast, Nat.sub_zero]
theorem run_cut_l (h1 : lo ≤ n) : (Instr.sliceAt t (.slice A n c) (some (.int .i64 lo)) none none).run P w = .ok (.slice (slA A lo c s) (n - lo) (c - lo)) w := by
  rw [run_sliceAt_slice w t _ _ _ _ ht, run_slice_l w t A n c ht .i64 lo (by omega) (by omega), hs]
  simp only [Result.andThen_ok, sliced, slA, Int.toNat_natCast]
end
end Go.Proofs.YtahjnonkhbpnpaaGreat
/- The walks of the reader of numbers (package wire). -/
namespace Go.Proofs.YtahjnonkhbpnpaaGreat
open Go.RowKit
theorem xor_m1 {q : Nat} (hq : q < 9223372036854775808) : bits .xor .i64 (q : Int) (-1) = -(q : Int) - 1 := by
  have e1 : BitVec.ofInt 64 (-1) = BitVec.allOnes 64 := by decide
  have key : (BitVec.ofInt 64 (q : Int) ^^^ BitVec.ofInt 64 (-1)).toNat = 18446744073709551615 - q := by
    rw [e1, BitVec.xor_allOnes, BitVec.toNat_not, BitVec.toNat_ofInt]
    omega
  show IntKind.i64.wrap ((BitVec.ofInt 64 (q : Int) ^^^ BitVec.ofInt 64 (-1)).toNat : Nat) = _
  rw [key, IntKind.wrap_i64]
  omega
theorem xor_0 {q : Nat} (hq : q < 9223372036854775808) : bits .xor .i64 (q : Int) 0 = (q : Int) := by
  have key : (BitVec.ofInt 64 (q : Int) ^^^ BitVec.ofInt 64 0).toNat = q := by
    rw [show BitVec.ofInt 64 0 = 0#64 by decide, BitVec.xor_zero, BitVec.toNat_ofInt]
    omega
  show IntKind.i64.wrap ((BitVec.ofInt 64 (q : Int) ^^^ BitVec.ofInt 64 0).toNat : Nat) = _
  rw [key, IntKind.wrap_i64]
  omega
theorem and1_64 {q : Nat} (hq : q < 18446744073709551616) : bits .and .u64 (q : Int) 1 = ((q % 2 : Nat) : Int) := by
  have := u64_and_nat q 1 hq (by decide)
  rw [Nat.and_one_is_mod] at this
  exact this
theorem back_any {w : World} {u : Nat} (hu : u < 18446744073709551616) :
    Calls Tryz.prog 138 #[.int .u64 (u : Int)] w fun e w' => e = .returned (.int .i64 (unt u)) ∧ w = w' := by
  have h2 : ((u : Int) / 2) = ((u / 2 : Nat) : Int) := by simp
  have HA := Lib.hid (and1_64 hu)
  by_cases ho : u % 2 = 1
  · have HU : Hid (unt u = -((u / 2 : Nat) : Int) - 1) := by unfold Hid unt; rw [if_pos ho]
    have HX := Lib.hid (xor_m1 (q := u / 2) (by omega))
    have HA1 : Hid (bits .and .u64 (u : Int) 1 = 1) := by unfold Hid; rw [HA.out, ho]; rfl
    have hA := HA1.out
    clear HA HA1 ho h2
    go_enter Tryz.func138, Tryz.ntmps138
    go_wp2_with fail
    go_ret
    exact ⟨by rw [HU.out, ← HX.out]; rfl, rfl⟩
  · have HU : Hid (unt u = ((u / 2 : Nat) : Int)) := by unfold Hid unt; rw [if_neg ho]
    have HX := Lib.hid (xor_0 (q := u / 2) (by omega))
    have HA1 : Hid (bits .and .u64 (u : Int) 1 = 0) := by unfold Hid; rw [HA.out, show u % 2 = 0 by omega]; rfl
    have hA := HA1.out
    clear HA HA1 ho h2
    go_enter Tryz.func138, Tryz.ntmps138
    go_wp2_with fail
    go_ret
    exact ⟨by rw [HU.out, ← HX.out]; rfl, rfl⟩

/-! ### The reader: two cells at block g -/
def RdB (w : World) (g B : Nat) (A : Option Addr) (n : Nat) : Prop := g < B ∧ B ≤ w.heap.size ∧ ∀ b o, 0 < n → A = some ⟨b, o, none⟩ → b < B
theorem RdB.up {w w' : World} {g B n : Nat} {A : Option Addr} (h : RdB w g B A n) (hs : w.heap.size ≤ w'.heap.size) : RdB w' g B A n := ⟨h.1, Nat.le_trans h.2.1 hs, h.2.2⟩
/-- a reader at block g; what it reads lies below B -/
def RdSt (w : World) (g B : Nat) (s : RS) : Prop := ∃ A n c, Blk w g 159 #[.slice A n c, .int .i64 s.e] ∧ SlB w A n c s.l ∧ RdB w g B A n
theorem RdSt.keep {w w' : World} {g B : Nat} {s : RS} (h : RdSt w g B s) (hb : Below w.heap.size w w') : RdSt w' g B s := by
  obtain ⟨A, n, c, h1, h2, h3⟩ := h
  exact ⟨A, n, c, h1.keep hb, h2.keep hb, h3.up hb.size⟩
theorem rd_ne {w : World} {g n c : Nat} {A : Option Addr} {e : Int} {l : List UInt8} {t : TypeId} (h1 : Blk w g t #[.slice A n c, .int .i64 e]) (h2 : SlB w A n c l) : ∀ b o, 0 < n → A = some ⟨b, o, none⟩ → ¬ b = g := by
  intro b o hn e' hb
  subst hb
  obtain ⟨b', o', e'', _, hc⟩ := h2.at_ (k := 0) hn
  rw [e'] at e''
  cases e''
  rw [h1.cell] at hc
  match o, hc with
  | 0, hc => simp at hc
  | 1, hc => simp at hc
  | o + 2, hc => simp at hc
theorem RdSt.fr {w w' : World} {g B : Nat} {s : RS} {S : Nat → Prop} (h : RdSt w g B s) (hb : Fr S w w') (hS : ∀ k, S k → B ≤ k) : RdSt w' g B s := by
  obtain ⟨A, n, c, h1, h2, h3⟩ := h
  refine ⟨A, n, c, h1.fr hb (fun h => ?_), h2.fr hb (fun b o hn e h => ?_), h3.up hb.size⟩
  · have := hS g h; have := h3.1; omega
  · have := h3.2.2 b o hn e
    have := hS b h
    omega
/-- what comes of the reader's error -/
def errS (s : RS) (e : Int) : RS := ⟨s.l, if s.e = 0 then e else s.e⟩
theorem fail_any {w : World} {g B : Nat} {s : RS} (h : RdSt w g B s) (e : Int) :
    Calls Tryz.prog 134 #[.pointer (some ⟨g, 0, none⟩), .int .i64 e] w fun x w' => x = .returned (.tuple #[]) ∧ RdSt w' g B (errS s e) ∧ Fr (fun k => k = g) w w' := by
  obtain ⟨A, n, c, h1, h2, h3⟩ := h
  obtain ⟨l, se⟩ := s
  simp only at h1 h2
  have hne := rd_ne h1 h2
  have c1 : w.cell? ⟨g, 1, none⟩ = some (.int .i64 se) := h1.cell 1
  have f1 := h1.frozen 1
  have hgl := h1.lt
  by_cases h0 : se = 0
  · subst h0
    go_enter Tryz.func134, Tryz.ntmps134
    go_wp2_with fail
    go_end0
    have hf : Fr (fun k => k = g) w (w.setCell ⟨g, 1, none⟩ (.int .i64 e)) := (Fr.refl (fun k => k = g) w).setCell (p := ⟨g, 1, none⟩) (fun _ => rfl) _
    exact ⟨rfl, ⟨A, n, c, h1.set_ 1 _, h2.fr hf hne, h3.up hf.size⟩, hf⟩
  · have h0' : (se == 0) = false := by simpa using h0
    have HE : Hid (errS ⟨l, se⟩ e = ⟨l, se⟩) := by unfold Hid errS; simp only [if_neg h0]
    clear h0
    go_enter Tryz.func134, Tryz.ntmps134
    go_wp2_with fail
    go_end0
    exact ⟨rfl, by rw [HE.out]; exact ⟨A, n, c, h1, h2, h3⟩, Fr.refl _ _⟩
/-- the next byte -/
def nxt (s : RS) : UInt8 × RS := if s.e = 0 then (match s.l with | [] => (0, ⟨[], 10⟩) | x :: r => (x, ⟨r, 0⟩)) else (0, s)
theorem size1 (w : World) : (sizeOf (Tryz.prog.elem 36)).run Tryz.prog w = .ok 1 w := by kernel_rfl
theorem u_bytes : Tryz.prog.underlying 36 = some (.slice (Tryz.prog.elem 36)) := by kernel_rfl
set_option maxRecDepth 100000 in
theorem next_any {w : World} {g B : Nat} {s : RS} (h : RdSt w g B s) :
    Calls Tryz.prog 140 #[.pointer (some ⟨g, 0, none⟩)] w fun x w' => x = .returned (.int .u8 ((nxt s).1.toNat : Int)) ∧ RdSt w' g B (nxt s).2 ∧ Fr (fun k => k = g) w w' := by
  obtain ⟨l, se⟩ := s
  have h' := h
  obtain ⟨A, n, c, h1, h2, h3⟩ := h
  simp only at h1 h2
  have hne := rd_ne h1 h2
  have hll := h2.2
  have hn := h2.len
  have c0 : w.cell? ⟨g, 0, none⟩ = some (.slice A n c) := h1.cell 0
  have c1 : w.cell? ⟨g, 1, none⟩ = some (.int .i64 se) := h1.cell 1
  have f0 := h1.frozen 0
  have hgl := h1.lt
  by_cases h0 : se = 0
  · subst h0
    cases l with
    | nil =>
      have hn0 : n = 0 := by simpa using hll.symm
      subst hn0
      go_enter Tryz.func140, Tryz.ntmps140
      go_wp2_with fail
      refine (fail_any h' 10).mono ?_
      rintro x w2 ⟨rfl, hr2, hf2⟩
      have hr2' := hr2
      obtain ⟨A2, n2, c2, k1, k2, k3⟩ := hr2
      have d1 : w2.cell? ⟨g, 1, none⟩ = some (.int .i64 10) := k1.cell 1
      go_wp2_with fail
      go_ret
      exact ⟨rfl, hr2', hf2⟩
    | cons y r =>
      obtain ⟨m, rfl⟩ : ∃ m, n = m + 1 := ⟨r.length, by simpa using hll.symm⟩
      have hz : ((m : Int) + 1 == 0) = false := by simp; omega
      obtain ⟨b, o, rfl, hb, hc⟩ := h2.at_ (k := 0) (by omega)
      have hbg := hne b o (by omega) rfl
      rw [Nat.add_zero, show atB (y :: r) 0 = y from rfl] at hc
      have hsl := fun w => run_cut_l u_bytes size1 w (some ⟨b, o, none⟩) (m + 1) c 1 (by omega)
      rw [show ((1 : Nat) : Int) = 1 from rfl, show m + 1 - 1 = m from rfl] at hsl
      have hcut := h2.cut (lo := 1) (hi := m + 1) (by omega) (Nat.le_refl _)
      rw [show m + 1 - 1 = m from rfl, show ((y :: r).drop 1).take m = r from by rw [List.drop_one, List.tail_cons]; exact List.take_of_length_le (by simp at hll; omega)] at hcut
      have hml : r.length = m := by simpa using hll
      clear hll
      go_enter Tryz.func140, Tryz.ntmps140
      go_wp2_with fail
      go_ret
      have hf : Fr (fun k => k = g) w (w.setCell ⟨g, 0, none⟩ (.slice (slA (some ⟨b, o, none⟩) 1 c 1) m (c - 1))) := (Fr.refl (fun k => k = g) w).setCell (p := ⟨g, 0, none⟩) (fun _ => rfl) _
      have hsame : ∀ b' o', slA (some ⟨b, o, none⟩) 1 c 1 = some ⟨b', o', none⟩ → b' = b := fun b' o' e => by
        unfold slA at e
        split at e
        · cases e; rfl
        · simp [add_none] at e; exact e.1.symm
      refine ⟨rfl, ⟨_, m, c - 1, h1.set_ 0 _, hcut.fr hf (fun b' o' hm e => ?_), h3.1, Nat.le_trans h3.2.1 hf.size, fun b' o' hm e => ?_⟩, hf⟩
      · rw [hsame b' o' e]; exact hbg
      · rw [hsame b' o' e]; exact h3.2.2 b o (by omega) rfl
  · have h0' : (se != 0) = true := by simpa using h0
    have HX : Hid (nxt ⟨l, se⟩ = (0, ⟨l, se⟩)) := by unfold Hid nxt; rw [if_neg h0]
    have HE : Hid (errS ⟨l, se⟩ 10 = ⟨l, se⟩) := by unfold Hid errS; simp only [if_neg h0]
    clear h0
    by_cases hn0 : n = 0
    · subst hn0
      go_enter Tryz.func140, Tryz.ntmps140
      go_wp2_with fail
      refine (fail_any h' 10).mono ?_
      rintro x w2 ⟨rfl, hr2, hf2⟩
      rw [HE.out] at hr2
      have hr2' := hr2
      obtain ⟨A2, n2, c2, k1, k2, k3⟩ := hr2
      have d1 : w2.cell? ⟨g, 1, none⟩ = some (.int .i64 se) := k1.cell 1
      go_wp2_with fail
      go_ret
      exact ⟨by rw [HX.out]; rfl, by rw [HX.out]; exact hr2', hf2⟩
    · have hz : ((n : Int) == 0) = false := by simp; omega
      clear hn0
      go_enter Tryz.func140, Tryz.ntmps140
      go_wp2_with fail
      go_ret
      exact ⟨by rw [HX.out]; rfl, by rw [HX.out]; exact h', Fr.refl _ _⟩
/-- what word tells -/
def WordRes (r : RdO) (u : Nat) (b : Bool) (s : RS) : Prop :=
  match r with
  | .ok v rest => u = v ∧ b = true ∧ s = ⟨rest, 0⟩
  | .cut => u = 0 ∧ s = ⟨[], 10⟩
  | .form rest => u = 0 ∧ b = false ∧ s = ⟨rest, 0⟩
theorem word_err {w : World} {g B : Nat} {s : RS} (h : RdSt w g B s) (h0 : s.e ≠ 0) :
    Calls Tryz.prog 137 #[.pointer (some ⟨g, 0, none⟩)] w fun x w' => x = .returned (.tuple #[.int .u64 0, .bool true]) ∧ RdSt w' g B s ∧ Fr (fun k => k = g) w w' := by
  have HX : Hid (nxt s = (0, s)) := by unfold Hid nxt; rw [if_neg h0]
  go_enter Tryz.func137, Tryz.ntmps137
  go_wp2_with fail
  refine wp_loop_rounds 2 ?_
  rw [rounds_succ]
  go_wp2_with fail
  refine (next_any h).mono ?_
  rintro x w2 ⟨rfl, hr2, hf2⟩
  rw [HX.out] at hr2 ⊢
  go_wp2_with fail
  go_ret2
  exact ⟨rfl, hr2, hf2⟩
theorem and127 {z : Nat} (hz : z < 256) : bits .and .u8 (z : Int) 127 = ((z % 128 : Nat) : Int) := by
  have := u8_and_nat z 127 hz (by decide)
  rw [show (127 : Nat) = 2 ^ 7 - 1 from rfl, Nat.and_two_pow_sub_one_eq_mod] at this
  exact this
theorem or_word {k acc z : Nat} (hk : k ≤ 9) (hacc : acc < 128 ^ k) (hz : z < 256) (h9 : k = 9 → z ≤ 1) :
    bits .or .u64 (acc : Int) (IntKind.u64.wrap (IntKind.u64.wrap (bits .and .u8 (z : Int) 127) * 2 ^ (7 * k))) = ((acc + z % 128 * 128 ^ k : Nat) : Int) := by
  have hp : (128 : Nat) ^ k = 2 ^ (7 * k) := by rw [show (128 : Nat) = 2 ^ 7 from rfl, ← Nat.pow_mul]
  have hb : z % 128 * 128 ^ k + 128 ^ k ≤ 18446744073709551616 := by
    by_cases h : k = 9
    · subst h
      have := h9 rfl
      have : z % 128 ≤ 1 := by omega
      have := Nat.mul_le_mul_right (128 ^ 9) this
      have e9 : (128 : Nat) ^ 9 = 9223372036854775808 := by decide
      generalize (128 : Nat) ^ 9 = Z at this e9 ⊢
      omega
    · have h1 : z % 128 * 128 ^ k + 128 ^ k ≤ 128 * 128 ^ k := by
        have : (z % 128 + 1) * 128 ^ k ≤ 128 * 128 ^ k := Nat.mul_le_mul_right _ (by omega)
        rw [Nat.add_mul] at this
        omega
      have h2 : (128 : Nat) ^ k ≤ 128 ^ 8 := Nat.pow_le_pow_right (by decide) (by omega)
      rw [show (128 : Nat) ^ 8 = 72057594037927936 by decide] at h2
      omega
  have hpos : 0 < (128 : Nat) ^ k := Nat.pow_pos (by decide)
  have e1 : IntKind.u64.wrap (bits .and .u8 (z : Int) 127) = ((z % 128 : Nat) : Int) := by
    rw [and127 hz]
    exact IntWalk.u64_in _ (by omega)
  have e2 : ((z % 128 : Nat) : Int) * 2 ^ (7 * k) = ((z % 128 * 128 ^ k : Nat) : Int) := by
    rw [hp]
    simp
  rw [e1, e2, IntWalk.u64_in _ (by omega), u64_or_nat _ _ (by omega) (by omega)]
  congr 1
  rw [hp] at hacc ⊢
  rw [Nat.or_comm, Nat.mul_comm (z % 128), ← Nat.two_pow_add_eq_or_of_lt hacc, Nat.add_comm]
set_option maxRecDepth 100000 in
set_option maxHeartbeats 1000000 in
theorem word_ok {w : World} {g B : Nat} {l : List UInt8} (h : RdSt w g B ⟨l, 0⟩) :
    Calls Tryz.prog 137 #[.pointer (some ⟨g, 0, none⟩)] w fun x w' => ∃ (u : Nat) (b : Bool) (s : RS), x = .returned (.tuple #[.int .u64 (u : Int), .bool b]) ∧ WordRes (rdW l 0 0) u b s ∧ RdSt w' g B s ∧ Fr (fun k => k = g) w w' := by
  go_enter Tryz.func137, Tryz.ntmps137
  go_wp2_with fail
  go_loopw [4, 7] (fun v i wr => ∃ (k acc : Nat) (r : List UInt8), k ≤ 9 ∧ i = .int .i64 k ∧ v = .int .u64 (acc : Int) ∧ acc < 128 ^ k ∧ Hid (rdW l 0 0 = rdW r k acc) ∧ RdSt wr g B ⟨r, 0⟩ ∧ Fr (fun k => k = g) w wr) (fun _ i _ => 10 - (intOf i).toNat)
  case atStart => exact ⟨0, 0, l, by omega, rfl, rfl, by decide, rfl, h, Fr.refl _ _⟩
  case round =>
    obtain ⟨k, acc, r, hk, rfl, rfl, hacc, HR, hr, hfw⟩ := hrel
    have hnx : (nxt ⟨r, 0⟩).1.toNat < 256 := u8_lt _
    go_wp2_with fail
    refine (next_any hr).mono ?_
    rintro x w2 ⟨rfl, hr2, hf2⟩
    have HN : Hid ((r = [] ∧ (nxt ⟨r, 0⟩).1.toNat = 0 ∧ (nxt ⟨r, 0⟩).2 = ⟨[], 10⟩) ∨ ∃ y q, r = y :: q ∧ (nxt ⟨r, 0⟩).1.toNat = y.toNat ∧ (nxt ⟨r, 0⟩).2 = ⟨q, 0⟩) := by
      cases r with
      | nil => exact .inl ⟨rfl, rfl, rfl⟩
      | cons y q => exact .inr ⟨y, q, rfl, rfl, rfl⟩
    have HF := Lib.hid (hfw.trans hf2)
    clear hf2 hfw hr
    generalize (nxt ⟨r, 0⟩).1.toNat = z at hnx HN ⊢
    generalize (nxt ⟨r, 0⟩).2 = s2 at hr2 HN ⊢
    have HO := fun h => Lib.hid (or_word (k := k) (acc := acc) (z := z) hk hacc hnx h)
    by_cases hbad : (k = 9 ∧ 1 < z) ∨ (0 < k ∧ z = 0)
    · have hres : WordRes (rdW l 0 0) 0 false s2 := by
        rw [HR.out]
        rcases HN.out with ⟨rfl, h1, rfl⟩ | ⟨y, q, rfl, h1, rfl⟩
        · exact ⟨rfl, rfl⟩
        · rw [rdW, if_neg (fun hok => by have := okB_u hok; omega)]
          exact ⟨rfl, rfl, rfl⟩
      have HRES := Lib.hid hres
      clear hres HO HN HR
      by_cases h9 : k = 9
      · by_cases hz : 1 < z
        · have t1 : decide ((1 : Int) < z) = true := by simp; omega
          have t0 : ((k : Int) == 9) = true := by simp; omega
          clear hbad h9 hz
          go_wp2_with fail
          go_ret2
          exact ⟨0, false, s2, rfl, HRES.out, hr2, HF.out⟩
        · have t1 : decide ((1 : Int) < z) = false := by simp; omega
          have t2 : ((z : Int) == 0) = true := by simp; omega
          have t3 : 0 < k := by omega
          have t0 : ((k : Int) == 9) = true := by simp; omega
          clear hbad h9 hz
          go_wp2_with fail
          go_ret2
          exact ⟨0, false, s2, rfl, HRES.out, hr2, HF.out⟩
      · have t2 : ((z : Int) == 0) = true := by simp; omega
        have t3 : 0 < k := by omega
        have t0 : ((k : Int) == 9) = false := by simp; omega
        clear hbad h9
        go_wp2_with fail
        go_ret2
        exact ⟨0, false, s2, rfl, HRES.out, hr2, HF.out⟩
    · have HA := HO (by omega)
      clear HO
      have hcase : (k = 9 ∧ z = 1) ∨ (k = 0) ∨ (0 < k ∧ k < 9 ∧ 0 < z) := by omega
      by_cases hlt : z < 128
      · have hres : WordRes (rdW l 0 0) (acc + z % 128 * 128 ^ k) true s2 := by
          rw [HR.out]
          rcases HN.out with ⟨rfl, h1, rfl⟩ | ⟨y, q, rfl, h1, rfl⟩
          · have hk0 : k = 0 := by omega
            subst hk0 h1
            refine ⟨?_, rfl⟩
            simp at hacc
            simp [hacc]
          · rw [rdW, if_pos (okB_of (fun h => by omega) (fun h => by omega)), if_pos (by omega), ← h1]
            exact ⟨rfl, rfl, rfl⟩
        have HRES := Lib.hid hres
        have hlt' : decide ((z : Int) < 128) = true := by simp; omega
        clear hres HN HR hbad hlt
        rcases hcase with ⟨h9, hz⟩ | hk0 | ⟨hk0, h9, hz⟩
        · have t1 : decide ((1 : Int) < z) = false := by simp; omega
          have t2 : ((z : Int) == 0) = false := by simp; omega
          have t3 : 0 < k := by omega
          have t0 : ((k : Int) == 9) = true := by simp; omega
          clear h9 hz
          go_wp2_with fail
          rw [HA.out]
          go_ret2
          exact ⟨_, true, s2, rfl, HRES.out, hr2, HF.out⟩
        · have t3 : ¬ 0 < k := by omega
          have t0 : ((k : Int) == 9) = false := by simp; omega
          clear hk0
          go_wp2_with fail
          rw [HA.out]
          go_ret2
          exact ⟨_, true, s2, rfl, HRES.out, hr2, HF.out⟩
        · have t2 : ((z : Int) == 0) = false := by simp; omega
          have t3 : 0 < k := by omega
          have t0 : ((k : Int) == 9) = false := by simp; omega
          clear h9 hz hk0
          go_wp2_with fail
          rw [HA.out]
          go_ret2
          exact ⟨_, true, s2, rfl, HRES.out, hr2, HF.out⟩
      · have hlt' : decide ((z : Int) < 128) = false := by simp; omega
        have hk8 : k < 9 := by omega
        have hz0 : 0 < z := by omega
        have hacc2 : acc + z % 128 * 128 ^ k < 128 ^ (k + 1) := by
          rw [Nat.pow_succ, Nat.mul_comm (128 ^ k) 128]
          have : z % 128 * 128 ^ k ≤ 127 * 128 ^ k := Nat.mul_le_mul_right _ (by omega)
          omega
        obtain ⟨q, hs2, hrw⟩ : ∃ q, s2 = ⟨q, 0⟩ ∧ rdW l 0 0 = rdW q (k + 1) (acc + z % 128 * 128 ^ k) := by
          rw [HR.out]
          rcases HN.out with ⟨rfl, h1, rfl⟩ | ⟨y, q, rfl, h1, rfl⟩
          · omega
          · refine ⟨q, rfl, ?_⟩
            rw [rdW, if_pos (okB_of (fun h => by omega) (fun h => by omega)), if_neg (by omega), ← h1]
        subst hs2
        have HRW := Lib.hid hrw
        clear hrw HN HR hbad hlt
        have t2 : ((z : Int) == 0) = false := by simp; omega
        have t0 : ((k : Int) == 9) = false := by simp; omega
        have h0c : 0 < k ∨ ¬ 0 < k := by omega
        clear hcase hz0
        rcases h0c with t3 | t3
        all_goals
          go_wp2_with fail
          rw [HA.out]
          exact ⟨⟨k + 1, _, q, by omega, by go_num, rfl, hacc2, HRW, hr2, HF.out⟩, by simp [intOf]; omega⟩
end Go.Proofs.YtahjnonkhbpnpaaGreat
/- The walks of the reader of numbers (package wire), second part: Int, Bool, Err, End, Read. -/
namespace Go.Proofs.YtahjnonkhbpnpaaGreat
open Go.RowKit
theorem rdW_lt {l : List UInt8} {k acc u : Nat} {r : List UInt8} (hk : k ≤ 9) (hacc : acc < 128 ^ k) (h : rdW l k acc = .ok u r) : u < 18446744073709551616 := by
  induction l generalizing k acc with
  | nil => simp [rdW] at h
  | cons y l ih =>
    rw [rdW] at h
    split at h
    · rename_i hok
      obtain ⟨h9, _⟩ := okB_u hok
      have hy := u8_lt y
      have hb : acc + y.toNat % 128 * 128 ^ k < 128 ^ (k + 1) := by
        rw [Nat.pow_succ, Nat.mul_comm (128 ^ k) 128]
        have : y.toNat % 128 * 128 ^ k ≤ 127 * 128 ^ k := Nat.mul_le_mul_right _ (by omega)
        omega
      split at h
      · cases h
        by_cases hk9 : k = 9
        · subst hk9
          have h1 := h9 rfl
          have h2 : y.toNat % 128 * 128 ^ 9 ≤ 1 * 128 ^ 9 := Nat.mul_le_mul_right _ (by omega)
          have e9 : (128 : Nat) ^ 9 = 9223372036854775808 := by decide
          rw [e9] at h2 hacc ⊢
          omega
        · have : (128 : Nat) ^ (k + 1) ≤ 128 ^ 9 := Nat.pow_le_pow_right (by decide) (by omega)
          have e9 : (128 : Nat) ^ 9 = 9223372036854775808 := by decide
          rw [e9] at this
          omega
      · have hk9 : k ≠ 9 := fun h => by have := h9 h; omega
        exact ih (by omega) hb h
    · cases h
theorem gInt_rng (s : RS) : i64 (gInt s).1 := by
  unfold gInt
  split
  · unfold i64; simp
  · split
    · rename_i u r h
      exact unt_rng (rdW_lt (by decide) (by decide) h)
    · unfold i64; simp
    · unfold i64; simp
set_option maxRecDepth 100000 in
theorem rdInt_any {w : World} {g B : Nat} {s : RS} (h : RdSt w g B s) :
    Calls Tryz.prog 87 #[.pointer (some ⟨g, 0, none⟩)] w fun x w' => x = .returned (.int .i64 (gInt s).1) ∧ RdSt w' g B (gInt s).2 ∧ Fr (fun k => k = g) w w' := by
  by_cases h0 : s.e = 0
  · obtain ⟨l, e⟩ := s
    simp only at h0
    subst h0
    go_enter Tryz.func87, Tryz.ntmps87
    go_wp2_with fail
    refine (word_ok h).mono ?_
    rintro x w2 ⟨u, b, s2, rfl, hres, hr2, hf2⟩
    cases hrd : rdW l 0 0 with
    | ok v rest =>
      have hlt := rdW_lt (by decide) (by decide) hrd
      rw [hrd] at hres
      obtain ⟨rfl, rfl, rfl⟩ := hres
      have HG2 : Hid (gInt ⟨l, 0⟩ = (unt u, ⟨rest, 0⟩)) := by unfold Hid; simp [gInt, hrd]
      clear hrd
      have hr3 := hr2
      obtain ⟨A, n, c, k1, k2, k3⟩ := hr2
      have d1 : w2.cell? ⟨g, 1, none⟩ = some (.int .i64 0) := k1.cell 1
      go_wp2_with fail
      refine (back_any hlt).mono ?_
      rintro x w3 ⟨rfl, rfl⟩
      go_wp2_with fail
      go_ret
      exact ⟨by rw [HG2.out]; rfl, by rw [HG2.out]; exact hr3, hf2⟩
    | cut =>
      rw [hrd] at hres
      obtain ⟨rfl, rfl⟩ := hres
      have HG2 : Hid (gInt ⟨l, 0⟩ = (0, ⟨[], 10⟩)) := by unfold Hid; simp [gInt, hrd]
      clear hrd
      have hr3 := hr2
      obtain ⟨A, n, c, k1, k2, k3⟩ := hr2
      have d1 : w2.cell? ⟨g, 1, none⟩ = some (.int .i64 10) := k1.cell 1
      cases b with
      | true =>
        go_wp2_with fail
        go_ret
        exact ⟨by rw [HG2.out]; rfl, by rw [HG2.out]; exact hr3, hf2⟩
      | false =>
        go_wp2_with fail
        refine (fail_any hr3 12).mono ?_
        rintro x w3 ⟨rfl, hr4, hf4⟩
        rw [show errS ⟨[], 10⟩ 12 = ⟨[], 10⟩ from rfl] at hr4
        have hr5 := hr4
        obtain ⟨A3, n3, c3, m1, m2, m3⟩ := hr4
        have e1 : w3.cell? ⟨g, 1, none⟩ = some (.int .i64 10) := m1.cell 1
        go_wp2_with fail
        go_ret
        exact ⟨by rw [HG2.out]; rfl, by rw [HG2.out]; exact hr5, hf2.trans hf4⟩
    | form rest =>
      rw [hrd] at hres
      obtain ⟨rfl, rfl, rfl⟩ := hres
      have HG2 : Hid (gInt ⟨l, 0⟩ = (0, ⟨rest, 12⟩)) := by unfold Hid; simp [gInt, hrd]
      clear hrd
      go_wp2_with fail
      refine (fail_any hr2 12).mono ?_
      rintro x w3 ⟨rfl, hr4, hf4⟩
      rw [show errS ⟨rest, 0⟩ 12 = ⟨rest, 12⟩ from rfl] at hr4
      have hr5 := hr4
      obtain ⟨A3, n3, c3, m1, m2, m3⟩ := hr4
      have e1 : w3.cell? ⟨g, 1, none⟩ = some (.int .i64 12) := m1.cell 1
      go_wp2_with fail
      go_ret
      exact ⟨by rw [HG2.out]; rfl, by rw [HG2.out]; exact hr5, hf2.trans hf4⟩
  · have HG : Hid (gInt s = (0, s)) := by unfold Hid gInt; rw [if_pos h0]
    have hne : (s.e != 0) = true := by simpa using h0
    go_enter Tryz.func87, Tryz.ntmps87
    go_wp2_with fail
    refine (word_err h h0).mono ?_
    rintro x w2 ⟨rfl, hr2, hf2⟩
    have hr3 := hr2
    obtain ⟨A, n, c, k1, k2, k3⟩ := hr2
    have d1 : w2.cell? ⟨g, 1, none⟩ = some (.int .i64 s.e) := k1.cell 1
    clear h0
    go_wp2_with fail
    go_ret
    exact ⟨by rw [HG.out]; rfl, by rw [HG.out]; exact hr3, hf2⟩
theorem err_any {w : World} {g B : Nat} {s : RS} (h : RdSt w g B s) :
    Calls Tryz.prog 104 #[.pointer (some ⟨g, 0, none⟩)] w fun x w' => x = .returned (.int .i64 s.e) ∧ w = w' := by
  obtain ⟨A, n, c, h1, h2, h3⟩ := h
  have d1 : w.cell? ⟨g, 1, none⟩ = some (.int .i64 s.e) := h1.cell 1
  go_enter Tryz.func104, Tryz.ntmps104
  go_wp2_with fail
  go_ret
  exact ⟨rfl, rfl⟩
theorem read_any {w : World} {A : Option Addr} {n c : Nat} {l : List UInt8} (h : SlB w A n c l) (hn : n ≤ 1000000) :
    Calls Tryz.prog 29 #[.slice A n c] w fun x w' => ∃ g B, x = .returned (.pointer (some ⟨g, 0, none⟩)) ∧ RdSt w' g B ⟨l, 0⟩ ∧ w.heap.size ≤ g ∧ Below w.heap.size w w' := by
  go_enter Tryz.func29, Tryz.ntmps29
  go_wp2_with fail
  refine (clone_any h hn).mono ?_
  rintro e w2 ⟨v2, rfl, hown2, hb2⟩
  obtain ⟨A2, c2, rfl, hs2, -⟩ := SlB.of_own hown2
  have hb3 := hb2.alloc hb2.size (.cells #[.slice A2 n c2, .int .i64 0] 159)
  have hbk := Blk.new w2 159 #[.slice A2 n c2, .int .i64 0]
  go_wp2_with fail
  go_ret
  exact ⟨w2.heap.size, w2.heap.size + 1, rfl, ⟨A2, n, c2, hbk, hs2.keep ((Below.refl _ _).alloc (Nat.le_refl _) _), Nat.lt_succ_self _, by simp, fun b o hn e => Nat.lt_succ_of_lt (hs2.lt_ hn e)⟩, hb2.size, hb3⟩
end Go.Proofs.YtahjnonkhbpnpaaGreat
/- What was read is what is written: one number. The plain law. -/
namespace Go.Proofs.YtahjnonkhbpnpaaGreat
theorem ob_self (x : UInt8) : ob x.toNat = x := by
  apply UInt8.toNat_inj.1
  rw [ob_toNat (u8_lt x)]
theorem rdW_inv {l : List UInt8} {i acc u : Nat} {r : List UInt8} (hi : i ≤ 9) (h : rdW l i acc = .ok u r) : ∃ m, u = acc + m * 128 ^ i ∧ (0 < i → 0 < m) ∧ l = vb (10 - i) m ++ r := by
  induction l generalizing i acc with
  | nil => simp [rdW] at h
  | cons x l ih =>
    rw [rdW] at h
    split at h
    · rename_i hok
      obtain ⟨h9, h0⟩ := okB_u hok
      have hx := u8_lt x
      split at h
      · rename_i hlt
        cases h
        refine ⟨x.toNat, by rw [Nat.mod_eq_of_lt hlt], h0, ?_⟩
        rw [vb_last hlt, ob_self]
        rfl
      · rename_i hge
        have hi9 : i ≠ 9 := fun e => by have := h9 e; omega
        obtain ⟨m, hu, hm, hl⟩ := ih (i := i + 1) (by omega) h
        have hm0 := hm (by omega)
        refine ⟨x.toNat % 128 + 128 * m, ?_, fun _ => by omega, ?_⟩
        · rw [hu, Nat.pow_succ, Nat.add_mul, Nat.add_assoc]
          congr 1
          rw [Nat.mul_comm (128 ^ i) 128, ← Nat.mul_assoc, Nat.mul_comm m 128]
        · rw [show 10 - i = (10 - (i + 1)) + 1 by omega, vb_more (by omega), show (x.toNat % 128 + 128 * m) % 128 + 128 = x.toNat by omega, show (x.toNat % 128 + 128 * m) / 128 = m by omega, ob_self, List.cons_append, ← hl]
    · cases h
theorem gInt_inv {s : RS} (h : (gInt s).2.e = 0) : s.e = 0 ∧ s.l = vint (gInt s).1 ++ (gInt s).2.l := by
  obtain ⟨l, e⟩ := s
  by_cases h0 : e = 0
  · subst h0
    cases hr : rdW l 0 0 with
    | ok u r =>
      have hg : gInt ⟨l, 0⟩ = (unt u, ⟨r, 0⟩) := by simp [gInt, hr]
      obtain ⟨m, hu, _, hl⟩ := rdW_inv (by decide) hr
      refine ⟨rfl, ?_⟩
      rw [hg]
      simp only
      have hm : m = u := by simpa using hu.symm
      subst hm
      unfold vint
      rw [tnd_unt]
      exact hl
    | cut =>
      have hg : gInt ⟨l, 0⟩ = (0, ⟨[], 10⟩) := by simp [gInt, hr]
      rw [hg] at h
      simp at h
    | form r =>
      have hg : gInt ⟨l, 0⟩ = (0, ⟨r, 12⟩) := by simp [gInt, hr]
      rw [hg] at h
      simp at h
  · have hg : gInt ⟨l, e⟩ = (0, ⟨l, e⟩) := by unfold gInt; rw [if_pos h0]
    rw [hg] at h
    exact absurd h h0
end Go.Proofs.YtahjnonkhbpnpaaGreat
