/- The walks of the document's Bounds, and SameBounds. -/
import Derived.Test.YtiglabknaldinaaCalRef
namespace Go.Proofs.Ytiglabknaldinaa
open Go.RowKit
theorem bdS_snoc (ss : List St) (s : St) : bdS (ss ++ [s]) = bdS ss ++ [⟨s.fr, s.fr, s.part⟩] ++ [⟨s.to, s.to, -1⟩] := by
  simp [bdS]
theorem pgS_take (x : Cf) (q : Pg) {j : Nat} (hj : j < (atD Md0 x.modes.l q.mode.toNat).wins.l.length) : (pgS x q).take (j + 1) = (pgS x q).take j ++ [slotS q.at_ (atD Wn0 (atD Md0 x.modes.l q.mode.toNat).wins.l j)] := by
  unfold pgS slotsS
  rw [← List.map_take, take_snocG Wn0 _ _ hj, List.map_append, List.map_take]
  rfl
theorem pgS_len (x : Cf) (q : Pg) : (pgS x q).length = (atD Md0 x.modes.l q.mode.toNat).wins.l.length := by simp [pgS, slotsS]
theorem pgF_at {w : World} {A : Option Addr} {n c : Nat} {l : List Pg} (h : SlG w A n c 4 Pg.f l) {k : Nat} (hk : k < n) : ∃ b o, A = some ⟨b, o, none⟩ ∧ b < w.heap.size ∧ w.cell? ⟨b, o + k * 4, none⟩ = some (.int .i64 (atD Pg0 l k).at_) ∧ w.cell? ⟨b, o + k * 4 + 1, none⟩ = some (.int .i64 (atD Pg0 l k).end_) ∧ w.cell? ⟨b, o + k * 4 + 2, none⟩ = some (.int .i64 (atD Pg0 l k).mode) ∧ w.cell? ⟨b, o + k * 4 + 3, none⟩ = some (.int .i64 (atD Pg0 l k).level) := by
  obtain ⟨b, o, hA, hb, hc⟩ := h.at_ Pg0 hk
  exact ⟨b, o, hA, hb, hc 0 _ rfl, hc 1 _ rfl, hc 2 _ rfl, hc 3 _ rfl⟩
set_option maxRecDepth 100000 in
set_option maxHeartbeats 6400000 in
theorem refBounds_any {x : Cf} {L : Hd Fm} {w : World} (hx : x.ok w) (hL : rdFms.ok w L) (h100 : L.l.length ≤ 100) (hm100 : ∀ m ∈ x.modes.l, m.wins.l.length ≤ 100) :
    Calls Try.prog 14 #[x.v, L.v] w fun e w' => ∃ v, e = .returned v ∧ w'.ownsRow w.heap.size 60 3 v (bdS (allS x (pagesS x Pg0 L.l))).length ((bdS (allS x (pagesS x Pg0 L.l))).flatMap Bd.f) ∧ Below w.heap.size w w' := by
  obtain ⟨i0, hi0, hz0, hz1, hz2⟩ := info_parts bdG_info
  have hu : Try.prog.underlying 57 = some (.slice 60) := by kernel_rfl
  have hN : (allS x (pagesS x Pg0 L.l)).length ≤ 10000 := by
    have h1 := pages_len x Pg0 L.l
    have h2 := allS_len x hm100 (pagesS x Pg0 L.l) (fun p hp => pagesS_mode x Pg0 L.l p hp)
    omega
  have hn := hL.1.len
  have hxn := hx.2.2.2.2.1.len
  have hmn := hx.2.2.1.1.len
  have hb := (Below.refl w.heap.size w).alloc (Nat.le_refl _) (.cells #[.slice x.parts.A x.parts.l.length x.parts.c, .slice x.chans.A x.chans.l.length x.chans.c, .slice x.modes.A x.modes.l.length x.modes.c, .slice x.pw.levels.A x.pw.levels.l.length x.pw.levels.c, .slice x.pw.naps.A x.pw.naps.l.length x.pw.naps.c, .int .i64 x.pw.sw, .int .i64 x.pw.idle, .int .i64 x.pw.change, .int .i64 x.pw.quant, .int .i64 x.pw.slow, .int .i64 x.pw.ppm, .slice x.shed.down.A x.shed.down.l.length x.shed.down.c, .slice x.shed.up.A x.shed.up.l.length x.shed.up.c] 33)
  have b1 := Blk.new w 33 #[.slice x.parts.A x.parts.l.length x.parts.c, .slice x.chans.A x.chans.l.length x.chans.c, .slice x.modes.A x.modes.l.length x.modes.c, .slice x.pw.levels.A x.pw.levels.l.length x.pw.levels.c, .slice x.pw.naps.A x.pw.naps.l.length x.pw.naps.c, .int .i64 x.pw.sw, .int .i64 x.pw.idle, .int .i64 x.pw.change, .int .i64 x.pw.quant, .int .i64 x.pw.slow, .int .i64 x.pw.ppm, .slice x.shed.down.A x.shed.down.l.length x.shed.down.c, .slice x.shed.up.A x.shed.up.l.length x.shed.up.c]
  simp only [Cf.v, Hd.v]
  go_enter Try.func14, Try.ntmps14
  go_upto_region 1 with fail
  generalize w.alloc (.cells #[.slice x.parts.A x.parts.l.length x.parts.c, .slice x.chans.A x.chans.l.length x.chans.c, .slice x.modes.A x.modes.l.length x.modes.c, .slice x.pw.levels.A x.pw.levels.l.length x.pw.levels.c, .slice x.pw.naps.A x.pw.naps.l.length x.pw.naps.c, .int .i64 x.pw.sw, .int .i64 x.pw.idle, .int .i64 x.pw.change, .int .i64 x.pw.quant, .int .i64 x.pw.slow, .int .i64 x.pw.ppm, .slice x.shed.down.A x.shed.down.l.length x.shed.down.c, .slice x.shed.up.A x.shed.up.l.length x.shed.up.c] 33) = w1 at hb b1 ⊢
  have c0 : w1.cell? ⟨w.heap.size, 0, none⟩ = some (.slice x.parts.A x.parts.l.length x.parts.c) := b1.cell 0
  have c1 : w1.cell? ⟨w.heap.size, 1, none⟩ = some (.slice x.chans.A x.chans.l.length x.chans.c) := b1.cell 1
  have c2 : w1.cell? ⟨w.heap.size, 2, none⟩ = some (.slice x.modes.A x.modes.l.length x.modes.c) := b1.cell 2
  have c3 : w1.cell? ⟨w.heap.size, 3, none⟩ = some (.slice x.pw.levels.A x.pw.levels.l.length x.pw.levels.c) := b1.cell 3
  have c4 : w1.cell? ⟨w.heap.size, 4, none⟩ = some (.slice x.pw.naps.A x.pw.naps.l.length x.pw.naps.c) := b1.cell 4
  have c5 : w1.cell? ⟨w.heap.size, 5, none⟩ = some (.int .i64 x.pw.sw) := b1.cell 5
  have c6 : w1.cell? ⟨w.heap.size, 6, none⟩ = some (.int .i64 x.pw.idle) := b1.cell 6
  have c7 : w1.cell? ⟨w.heap.size, 7, none⟩ = some (.int .i64 x.pw.change) := b1.cell 7
  have c8 : w1.cell? ⟨w.heap.size, 8, none⟩ = some (.int .i64 x.pw.quant) := b1.cell 8
  have c9 : w1.cell? ⟨w.heap.size, 9, none⟩ = some (.int .i64 x.pw.slow) := b1.cell 9
  have c10 : w1.cell? ⟨w.heap.size, 10, none⟩ = some (.int .i64 x.pw.ppm) := b1.cell 10
  have c11 : w1.cell? ⟨w.heap.size, 11, none⟩ = some (.slice x.shed.down.A x.shed.down.l.length x.shed.down.c) := b1.cell 11
  have c12 : w1.cell? ⟨w.heap.size, 12, none⟩ = some (.slice x.shed.up.A x.shed.up.l.length x.shed.up.c) := b1.cell 12
  have hs1 := b1.lt
  go_wp2_with fail
  refine (refPages_any (w := w1) (rdCf.keep hx hb) (rdFms.keep hL hb) (by omega)).mono ?_
  rintro e w2 ⟨v, rfl, hown, hb2⟩
  obtain ⟨VA, vc, rfl, hV, -⟩ := SlG.of_own hown (fun _ _ => rfl) rfl
  have b2 := b1.keep hb2
  have hB2 := hb.trans (hb2.mono hb.size)
  clear hown c0 c1 c2 c3 c4 c5 c6 c7 c8 c9 c10 c11 c12
  have hpm := fun p hp => pagesS_mode x Pg0 L.l p hp
  generalize hP : pagesS x Pg0 L.l = P at hN hV hpm
  have HPP := Lib.hid hP
  clear hP
  have hPn := hV.len
  obtain ⟨wo, rfl⟩ : ∃ wo : World, wo = w := ⟨_, rfl⟩
  go_wp2_with fail
  go_loopw [5, 7] (fun v i wr => ∃ k : Nat, k ≤ P.length ∧ i = .int .i64 (k : Int) ∧ wr.ownsRow w2.heap.size 60 3 v (bdS (allS x (P.take k))).length ((bdS (allS x (P.take k))).flatMap Bd.f) ∧ Below w2.heap.size w2 wr) (fun _ i _ => P.length - (intOf i).toNat)
  case atStart => exact ⟨0, Nat.zero_le _, rfl, World.ownsRow_nil _ _ _ _, Below.refl _ _⟩
  case round =>
    obtain ⟨k, hk, rfl, hown, hbw⟩ := hrel
    have hB := hB2.trans (hbw.mono hB2.size)
    have bw := b2.keep hbw
    by_cases hlt : k < P.length
    · obtain ⟨hq0, hq1⟩ := hpm _ (atD_mem (d := Pg0) hlt)
      have hts := allS_take x P hlt
      have hal := fun j hj => allS_lt x P hlt (j := j) hj
      have hpt := fun j hj => pgS_take x (atD Pg0 P k) (j := j) hj
      have hpl := pgS_len x (atD Pg0 P k)
      have hVc : ∀ W, Below w2.heap.size w2 W → ∀ b o, VA = some ⟨b, o, none⟩ → W.cell? ⟨b, o + k * 4, none⟩ = some (.int .i64 (atD Pg0 P k).at_) := fun W hW b o e => by
        obtain ⟨b', o', e', _, h, _⟩ := pgF_at (hV.keep hW) hlt
        rw [e'] at e
        cases e
        exact h
      obtain ⟨pb, po, rfl, hpb, p0, p1, p2, p3⟩ := pgF_at (hV.keep hbw) hlt
      have hVd := fun W hW => hVc W hW pb po rfl
      clear hVc
      rw [hpl] at hal
      generalize atD Pg0 P k = q at p0 p1 p2 p3 hq0 hq1 hts hal hpt hpl hVd
      obtain ⟨qa, qe, qm, ql⟩ := q
      simp only at p0 p1 p2 p3 hq0 hq1 hts hal hpt hpl hVd
      have HV := Lib.hid hVd
      clear hVd
      obtain ⟨m, rfl⟩ := Int.eq_ofNat_of_zero_le hq0
      rw [Int.toNat_natCast] at hal hpt hpl
      have hm : m < x.modes.l.length := by omega
      obtain ⟨mb, mo, hA, hmb, hmc⟩ := (rdMds.keep hx.2.2.1 hB).1.at_ Md0 hm
      have hmd := (rdMds.keep hx.2.2.1 hB).2 _ (atD_mem (d := Md0) hm)
      have hme : ∀ W, Below w2.heap.size w2 W → (atD Md0 x.modes.l m).ok W := fun W hW => (rdMds.keep hx.2.2.1 (hB2.trans (hW.mono hB2.size))).2 _ (atD_mem (d := Md0) hm)
      have m1 : wr.cell? ⟨mb, mo + m * 2 + 1, none⟩ = some (.slice (atD Md0 x.modes.l m).wins.A (atD Md0 x.modes.l m).wins.l.length (atD Md0 x.modes.l m).wins.c) := hmc 1 _ rfl
      have c2 : wr.cell? ⟨wo.heap.size, 2, none⟩ = some (.slice x.modes.A x.modes.l.length x.modes.c) := bw.cell 2
      rw [hA] at c2
      have hlw := bw.lt
      clear hA hmc
      have HTS := Lib.hid hts
      have HPT := Lib.hid hpt
      have HPL := Lib.hid hpl
      clear hts hpt hpl
      generalize atD Md0 x.modes.l m = md at m1 hmd hal HPT HPL hme
      obtain ⟨fr, ⟨WA, wc', wl⟩⟩ := md
      have hwi := hmd.2
      simp only at m1 hal hwi HPT HPL
      have hwn := hwi.1.len
      have HM := Lib.hid hme
      clear hme
      simp only at hwn
      go_wp2_with fail
      go_quiet (fail)
      have hbq : Below wr.heap.size wr (wr.drewN nq) := below_refl_drewN _ _ _
      have hownq := own_below hown hbq
      have hbwq := hbw.trans (hbq.mono hbw.size)
      generalize wr.drewN nq = wq at hbq hownq hbwq ⊢
      clear p0 p1 p2 p3 c2 m1 hown hbw hwi bw hbq hmd hB
      go_wp2_with fail
      obtain ⟨wp, rfl⟩ : ∃ wp : World, wp = wq := ⟨_, rfl⟩
      go_loopw [5, 9] (fun v i wr => ∃ j : Nat, j ≤ wl.length ∧ i = .int .i64 (j : Int) ∧ wr.ownsRow w2.heap.size 60 3 v (bdS (allS x (P.take k) ++ (pgS x ⟨qa, qe, m, ql⟩).take j)).length ((bdS (allS x (P.take k) ++ (pgS x ⟨qa, qe, m, ql⟩).take j)).flatMap Bd.f) ∧ Below w2.heap.size w2 wr) (fun _ i _ => wl.length - (intOf i).toNat)
      case atStart => exact ⟨0, Nat.zero_le _, rfl, by simpa using hownq, hbwq⟩
      case round =>
        obtain ⟨j, hj, rfl, hownj, hb2j⟩ := hrel
        by_cases hjn : j < wl.length
        · obtain ⟨sb, so, rfl, hsb, hsc⟩ := (HM.out wr hb2j).2.1.at_ Wn0 hjn
          have s0 : wr.cell? ⟨sb, so + j * 3, none⟩ = some (.int .i64 (atD Wn0 wl j).part) := hsc 0 _ rfl
          have s1 : wr.cell? ⟨sb, so + j * 3 + 1, none⟩ = some (.int .i64 (atD Wn0 wl j).start) := hsc 1 _ rfl
          have s2 : wr.cell? ⟨sb, so + j * 3 + 2, none⟩ = some (.int .i64 (atD Wn0 wl j).len) := hsc 2 _ rfl
          have y0' := HV.out wr hb2j
          have hpbw : pb < wr.heap.size := World.block_lt_of_cell? wr _ y0'
          have halj := hal j hjn
          have hbl := bdS_len (allS x (P.take k) ++ (pgS x ⟨qa, qe, m, ql⟩).take j)
          have hap : (allS x (P.take k) ++ (pgS x ⟨qa, qe, m, ql⟩).take j).length ≤ 10000 := by
            rw [List.length_append, List.length_take]
            omega
          have hcur := bdS_snoc (allS x (P.take k) ++ (pgS x ⟨qa, qe, m, ql⟩).take j) (slotS qa (atD Wn0 wl j))
          rw [List.append_assoc, ← HPT.out j hjn] at hcur
          have HC := Lib.hid hcur
          clear hcur hsc
          generalize atD Wn0 wl j = wn at s0 s1 s2 HC
          obtain ⟨n0, n1, n2⟩ := wn
          simp only [slotS] at s0 s1 s2 HC
          generalize bdS (allS x (P.take k) ++ (pgS x ⟨qa, qe, m, ql⟩).take j) = cur at hownj hbl HC
          have hcl : cur.length ≤ 20000 := by omega
          clear hbl hap
          have hwr := IntWalk.i64_left (qa + n1)
          go_wp2_with fail
          go_quiet (fail)
          have hbq : Below wr.heap.size wr (wr.drewN nq) := below_refl_drewN _ _ _
          have z0 : (wr.drewN nq).cell? ⟨sb, so + j * 3, none⟩ = some (.int .i64 n0) := s0
          have z1 : (wr.drewN nq).cell? ⟨sb, so + j * 3 + 1, none⟩ = some (.int .i64 n1) := s1
          have z2 : (wr.drewN nq).cell? ⟨sb, so + j * 3 + 2, none⟩ = some (.int .i64 n2) := s2
          have hownx := own_below hownj hbq
          have hb2x := hb2j.trans (hbq.mono hb2j.size)
          have hsbx : sb < (wr.drewN nq).heap.size := hsb
          generalize wr.drewN nq = wx at hbq z0 z1 z2 hownx hb2x hsbx ⊢
          clear s0 s1 s2 y0' hwr hownj hb2j hbq hsb
          have hzx := hb2x.size
          go_upto_region 13 with (at_builtin; refine wpList_app1 wx (by rfl) _ _ 57 (by rfl) w2.heap.size 60 i0 _ 3 24 hu hi0 hz0 hz1 hz2 rfl (by decide) (by decide) _ cur.length _ (by rfl) hownx #[.int .i64 (wrap64 (qa + n1)), .int .i64 (wrap64 (qa + n1)), .int .i64 n0] rfl (by simp [Value.oneCell']) (by rfl) (by omega) (by omega) ?_; intro v' w4 hown4 hf4 hat4)
          have hB4 := app_below hb2x hownx hf4
          have hz4 := hB4.size
          clear hat4 hf4 hownx hb2x z0 z1 z2
          go_wp2_with (at_builtin; refine wpList_app1 w4 (by rfl) _ _ 57 (by rfl) w2.heap.size 60 i0 _ 3 24 hu hi0 hz0 hz1 hz2 rfl (by decide) (by decide) _ (cur.length + 1) _ (by rfl) hown4 #[.int .i64 (wrap64 (wrap64 (qa + n1) + n2)), .int .i64 (wrap64 (wrap64 (qa + n1) + n2)), .int .i64 (-1)] rfl (by simp [Value.oneCell']) (by rfl) (by omega) (by omega) ?_; intro v'' w5 hown5 hf5 hat5)
          refine ⟨⟨j + 1, by omega, by go_num, ?_, app_below hB4 hown4 hf5⟩, by simp [intOf]; omega⟩
          rw [HC.out, List.flatMap_append, List.flatMap_append, List.length_append, List.length_append]
          exact hown5
        · obtain rfl : j = wl.length := by omega
          go_wp2_with fail
          refine ⟨⟨k + 1, by omega, by go_num, ?_, hb2j⟩, by simp [intOf]; omega⟩
          rw [HTS.out]
          rw [← HPL.out, List.take_length] at hownj
          exact hownj
    · obtain rfl : k = P.length := by omega
      go_wp2_with fail
      go_ret
      rw [List.take_length] at hown
      exact ⟨_, rfl, by rw [HPP.out]; exact own_mono hown hB2.size, hB⟩
theorem bdF_at {w : World} {A : Option Addr} {n c : Nat} {l : List Bd} (h : SlG w A n c 3 Bd.f l) {k : Nat} (hk : k < n) : ∃ b o, A = some ⟨b, o, none⟩ ∧ b < w.heap.size ∧ w.cell? ⟨b, o + k * 3, none⟩ = some (.int .i64 (atD Bd0 l k).due) ∧ w.cell? ⟨b, o + k * 3 + 1, none⟩ = some (.int .i64 (atD Bd0 l k).at_) ∧ w.cell? ⟨b, o + k * 3 + 2, none⟩ = some (.int .i64 (atD Bd0 l k).part) := by
  obtain ⟨b, o, hA, hb, hc⟩ := h.at_ Bd0 hk
  exact ⟨b, o, hA, hb, hc 0 _ rfl, hc 1 _ rfl, hc 2 _ rfl⟩
set_option maxRecDepth 100000 in
set_option maxHeartbeats 6400000 in
/-- of alike lists. -/
theorem sameBounds_eq {w : World} {A B : Option Addr} {n c d : Nat} {l : List Bd} (ha : SlG w A n c 3 Bd.f l) (hb : SlG w B n d 3 Bd.f l) :
    Calls Try.prog 15 #[.slice A n c, .slice B n d] w fun e w' => e = .returned (.bool true) ∧ ∃ k, w' = w.drewN k := by
  have hn := ha.len
  go_enter Try.func15, Try.ntmps15
  go_wp2_with fail
  go_loopw [5] (fun i wr => ∃ k : Nat, k ≤ n ∧ i = .int .i64 (k : Int) ∧ ∃ q, wr = w.drewN q) (fun i _ => n - (intOf i).toNat)
  case atStart => exact ⟨0, Nat.zero_le _, rfl, 0, rfl⟩
  case round =>
    obtain ⟨k, hk, rfl, q, rfl⟩ := hrel
    by_cases hlt : k < n
    · obtain ⟨b1, o1, rfl, hb1, x0, x1, x2⟩ := bdF_at ha hlt
      obtain ⟨b2, o2, rfl, hb2, y0, y1, y2⟩ := bdF_at hb hlt
      generalize atD Bd0 l k = s at x0 x1 x2 y0 y1 y2
      go_wp2_with fail
      go_quiet (fail)
      go_wp2_with fail
      exact ⟨⟨k + 1, by omega, by go_num, _, rfl⟩, by simp [intOf]; omega⟩
    · obtain rfl : k = n := by omega
      go_wp2_with fail
      go_ret
      exact ⟨rfl, q, rfl⟩
end Go.Proofs.Ytiglabknaldinaa
