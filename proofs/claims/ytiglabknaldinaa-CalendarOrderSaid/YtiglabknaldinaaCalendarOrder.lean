/- The law CalendarOrder returns true whatever the input. -/
import Derived.Test.YtiglabknaldinaaCalOrd
import Derived.Test.YtiglabknaldinaaCfgShort
import Derived.Test.YtiglabknaldinaaCalRefB
import Derived.Test.YtiglabknaldinaaCalWorks
namespace Go.Proofs.Ytiglabknaldinaa
open Go.RowKit
theorem stO_at {w : World} {A : Option Addr} {n c : Nat} {l : List St} (h : SlG w A n c 3 St.f l) {k : Nat} (hk : k < n) : ∃ b o, A = some ⟨b, o, none⟩ ∧ b < w.heap.size ∧ w.cell? ⟨b, o + k * 3 + 1, none⟩ = some (.int .i64 (atD St0 l k).fr) ∧ w.cell? ⟨b, o + k * 3 + 2, none⟩ = some (.int .i64 (atD St0 l k).to) := by
  obtain ⟨b, o, hA, hb, hc⟩ := h.at_ St0 hk
  exact ⟨b, o, hA, hb, hc 1 _ rfl, hc 2 _ rfl⟩
theorem slotsO_at (m : Md) (at_ : Int) {k : Nat} (hk : k < m.wins.l.length) : atD St0 (slotsS m at_) k = slotS at_ (atD Wn0 m.wins.l k) := by
  unfold slotsS
  rw [atD_lt (by simpa using hk), atD_lt hk, List.getElem_map]
def OrdI (P : List Pg) (n : Nat) (w0 : World) (e la i : Value) (wr : World) : Prop := ∃ k : Nat, k ≤ n ∧ i = .int .i64 (k : Int) ∧ e = .int .i64 (endP 0 P k) ∧ la = .int .i64 (endP 0 P k) ∧ Below w0.heap.size w0 wr
def SlotI (l : List Wn) (a : Int) (w0 : World) (la i : Value) (wr : World) : Prop := ∃ j : Nat, j ≤ l.length ∧ i = .int .i64 (j : Int) ∧ la = .int .i64 (a + endW l j) ∧ 0 ≤ endW l j ∧ Below w0.heap.size w0 wr
set_option maxRecDepth 100000 in
set_option maxHeartbeats 12800000 in
theorem calendarOrder_law {x : Cf} {L : Hd Fm} {w : World} (hx : x.ok w) (hL : rdFms.ok w L) :
    Calls Try.prog 4 #[x.v, L.v] w fun e w' => e = .returned (.bool true) ∧ Below w.heap.size w w' := by
  have hn := hL.1.len
  have hb := (Below.refl w.heap.size w).alloc (Nat.le_refl _) (.cells #[.slice x.parts.A x.parts.l.length x.parts.c, .slice x.chans.A x.chans.l.length x.chans.c, .slice x.modes.A x.modes.l.length x.modes.c, .slice x.pw.levels.A x.pw.levels.l.length x.pw.levels.c, .slice x.pw.naps.A x.pw.naps.l.length x.pw.naps.c, .int .i64 x.pw.sw, .int .i64 x.pw.idle, .int .i64 x.pw.change, .int .i64 x.pw.quant, .int .i64 x.pw.slow, .int .i64 x.pw.ppm, .slice x.shed.down.A x.shed.down.l.length x.shed.down.c, .slice x.shed.up.A x.shed.up.l.length x.shed.up.c] 33)
  have b1 := Blk.new w 33 #[.slice x.parts.A x.parts.l.length x.parts.c, .slice x.chans.A x.chans.l.length x.chans.c, .slice x.modes.A x.modes.l.length x.modes.c, .slice x.pw.levels.A x.pw.levels.l.length x.pw.levels.c, .slice x.pw.naps.A x.pw.naps.l.length x.pw.naps.c, .int .i64 x.pw.sw, .int .i64 x.pw.idle, .int .i64 x.pw.change, .int .i64 x.pw.quant, .int .i64 x.pw.slow, .int .i64 x.pw.ppm, .slice x.shed.down.A x.shed.down.l.length x.shed.down.c, .slice x.shed.up.A x.shed.up.l.length x.shed.up.c]
  simp only [Cf.v, Hd.v]
  go_enter Try.func4, Try.ntmps4
  go_upto_region 1 with fail
  generalize w.alloc (.cells #[.slice x.parts.A x.parts.l.length x.parts.c, .slice x.chans.A x.chans.l.length x.chans.c, .slice x.modes.A x.modes.l.length x.modes.c, .slice x.pw.levels.A x.pw.levels.l.length x.pw.levels.c, .slice x.pw.naps.A x.pw.naps.l.length x.pw.naps.c, .int .i64 x.pw.sw, .int .i64 x.pw.idle, .int .i64 x.pw.change, .int .i64 x.pw.quant, .int .i64 x.pw.slow, .int .i64 x.pw.ppm, .slice x.shed.down.A x.shed.down.l.length x.shed.down.c, .slice x.shed.up.A x.shed.up.l.length x.shed.up.c] 33) = w1 at hb b1 ⊢
  obtain ⟨gx, hgx⟩ : ∃ gx, gx = w.heap.size := ⟨_, rfl⟩
  rw [← hgx] at b1 ⊢
  clear hgx
  have c0 : w1.cell? ⟨gx, 0, none⟩ = some (.slice x.parts.A x.parts.l.length x.parts.c) := b1.cell 0
  have c1 : w1.cell? ⟨gx, 1, none⟩ = some (.slice x.chans.A x.chans.l.length x.chans.c) := b1.cell 1
  have c2 : w1.cell? ⟨gx, 2, none⟩ = some (.slice x.modes.A x.modes.l.length x.modes.c) := b1.cell 2
  have c3 : w1.cell? ⟨gx, 3, none⟩ = some (.slice x.pw.levels.A x.pw.levels.l.length x.pw.levels.c) := b1.cell 3
  have c4 : w1.cell? ⟨gx, 4, none⟩ = some (.slice x.pw.naps.A x.pw.naps.l.length x.pw.naps.c) := b1.cell 4
  have c5 : w1.cell? ⟨gx, 5, none⟩ = some (.int .i64 x.pw.sw) := b1.cell 5
  have c6 : w1.cell? ⟨gx, 6, none⟩ = some (.int .i64 x.pw.idle) := b1.cell 6
  have c7 : w1.cell? ⟨gx, 7, none⟩ = some (.int .i64 x.pw.change) := b1.cell 7
  have c8 : w1.cell? ⟨gx, 8, none⟩ = some (.int .i64 x.pw.quant) := b1.cell 8
  have c9 : w1.cell? ⟨gx, 9, none⟩ = some (.int .i64 x.pw.slow) := b1.cell 9
  have c10 : w1.cell? ⟨gx, 10, none⟩ = some (.int .i64 x.pw.ppm) := b1.cell 10
  have c11 : w1.cell? ⟨gx, 11, none⟩ = some (.slice x.shed.down.A x.shed.down.l.length x.shed.down.c) := b1.cell 11
  have c12 : w1.cell? ⟨gx, 12, none⟩ = some (.slice x.shed.up.A x.shed.up.l.length x.shed.up.c) := b1.cell 12
  have hl1 := b1.lt
  go_wp2_with fail
  refine (short_any (w := w1) (rdCf.keep hx hb)).mono ?_
  rintro e w2 ⟨bs, rfl, hsh, hb2⟩
  have b2 := b1.keep hb2
  have hB2 := hb.trans (hb2.mono hb.size)
  clear c0 c1 c2 c3 c4 c5 c6 c7 c8 c9 c10 c11 c12
  cases bs with
  | false =>
    clear hsh
    go_wp2_with fail
    refine (works_any _).mono ?_
    rintro e w3 ⟨rfl, hb3⟩
    go_wp2_with fail
    go_ret
    exact ⟨rfl, hB2.trans (hb3.mono hB2.size)⟩
  | true =>
    have HSH := Lib.hid (hsh rfl)
    clear hsh
    by_cases h100 : 100 < L.l.length
    · go_wp2_with fail
      refine (works_any _).mono ?_
      rintro e w3 ⟨rfl, hb3⟩
      go_wp2_with fail
      go_ret
      exact ⟨rfl, hB2.trans (hb3.mono hB2.size)⟩
    · have _d := True.intro
      have c0 : w2.cell? ⟨gx, 0, none⟩ = some (.slice x.parts.A x.parts.l.length x.parts.c) := b2.cell 0
      have c1 : w2.cell? ⟨gx, 1, none⟩ = some (.slice x.chans.A x.chans.l.length x.chans.c) := b2.cell 1
      have c2 : w2.cell? ⟨gx, 2, none⟩ = some (.slice x.modes.A x.modes.l.length x.modes.c) := b2.cell 2
      have c3 : w2.cell? ⟨gx, 3, none⟩ = some (.slice x.pw.levels.A x.pw.levels.l.length x.pw.levels.c) := b2.cell 3
      have c4 : w2.cell? ⟨gx, 4, none⟩ = some (.slice x.pw.naps.A x.pw.naps.l.length x.pw.naps.c) := b2.cell 4
      have c5 : w2.cell? ⟨gx, 5, none⟩ = some (.int .i64 x.pw.sw) := b2.cell 5
      have c6 : w2.cell? ⟨gx, 6, none⟩ = some (.int .i64 x.pw.idle) := b2.cell 6
      have c7 : w2.cell? ⟨gx, 7, none⟩ = some (.int .i64 x.pw.change) := b2.cell 7
      have c8 : w2.cell? ⟨gx, 8, none⟩ = some (.int .i64 x.pw.quant) := b2.cell 8
      have c9 : w2.cell? ⟨gx, 9, none⟩ = some (.int .i64 x.pw.slow) := b2.cell 9
      have c10 : w2.cell? ⟨gx, 10, none⟩ = some (.int .i64 x.pw.ppm) := b2.cell 10
      have c11 : w2.cell? ⟨gx, 11, none⟩ = some (.slice x.shed.down.A x.shed.down.l.length x.shed.down.c) := b2.cell 11
      have c12 : w2.cell? ⟨gx, 12, none⟩ = some (.slice x.shed.up.A x.shed.up.l.length x.shed.up.c) := b2.cell 12
      have hl2 := b2.lt
      go_wp2_with fail
      refine (may_any (rdCf.keep hx hB2)).mono ?_
      rintro e w3 ⟨r, rfl, hr, hb3⟩
      have b3 := b2.keep hb3
      have hB3 := hB2.trans (hb3.mono hB2.size)
      clear c0 c1 c2 c3 c4 c5 c6 c7 c8 c9 c10 c11 c12 hl2 hl1
      cases r with
      | false =>
        clear hr
        go_wp2_with fail
        refine (works_any _).mono ?_
        rintro e w4 ⟨rfl, hb4⟩
        go_wp2_with fail
        go_ret
        exact ⟨rfl, hB3.trans (hb4.mono hB3.size)⟩
      | true =>
        have hG := hr rfl
        obtain ⟨hPn, hPG⟩ := pages_good hG L.l Pg0 ⟨by decide, by have := hG.1; simp only [Pg0]; omega⟩ ⟨by decide, by simp only [Pg0]; omega⟩ (by decide) (by simp only [Pg0]; omega)
        have HG := Lib.hid hG
        have HPG := Lib.hid hPG
        clear hr hG hPG
        have c0 : w3.cell? ⟨gx, 0, none⟩ = some (.slice x.parts.A x.parts.l.length x.parts.c) := b3.cell 0
        have c1 : w3.cell? ⟨gx, 1, none⟩ = some (.slice x.chans.A x.chans.l.length x.chans.c) := b3.cell 1
        have c2 : w3.cell? ⟨gx, 2, none⟩ = some (.slice x.modes.A x.modes.l.length x.modes.c) := b3.cell 2
        have c3 : w3.cell? ⟨gx, 3, none⟩ = some (.slice x.pw.levels.A x.pw.levels.l.length x.pw.levels.c) := b3.cell 3
        have c4 : w3.cell? ⟨gx, 4, none⟩ = some (.slice x.pw.naps.A x.pw.naps.l.length x.pw.naps.c) := b3.cell 4
        have c5 : w3.cell? ⟨gx, 5, none⟩ = some (.int .i64 x.pw.sw) := b3.cell 5
        have c6 : w3.cell? ⟨gx, 6, none⟩ = some (.int .i64 x.pw.idle) := b3.cell 6
        have c7 : w3.cell? ⟨gx, 7, none⟩ = some (.int .i64 x.pw.change) := b3.cell 7
        have c8 : w3.cell? ⟨gx, 8, none⟩ = some (.int .i64 x.pw.quant) := b3.cell 8
        have c9 : w3.cell? ⟨gx, 9, none⟩ = some (.int .i64 x.pw.slow) := b3.cell 9
        have c10 : w3.cell? ⟨gx, 10, none⟩ = some (.int .i64 x.pw.ppm) := b3.cell 10
        have c11 : w3.cell? ⟨gx, 11, none⟩ = some (.slice x.shed.down.A x.shed.down.l.length x.shed.down.c) := b3.cell 11
        have c12 : w3.cell? ⟨gx, 12, none⟩ = some (.slice x.shed.up.A x.shed.up.l.length x.shed.up.c) := b3.cell 12
        have hl3 := b3.lt
        go_wp2_with fail
        refine (Pages_any (rdCf.keep hx hB3) (rdFms.keep hL hB3) (by omega)).mono ?_
        rintro e w4 ⟨v, rfl, hown, hb4⟩
        obtain ⟨VA, vc, rfl, hV, -⟩ := SlG.of_own hown (fun _ _ => rfl) rfl
        have b4 := b3.keep hb4
        have hB4 := hB3.trans (hb4.mono hB3.size)
        clear hown c0 c1 c2 c3 c4 c5 c6 c7 c8 c9 c10 c11 c12 hl3 hb hb2 hb3 hb4 hB2 hB3 b1 b2 b3
        rw [hPn] at hV ⊢
        generalize hPP : pagesS x Pg0 L.l = P at hV HPG
        clear hPP hPn
        go_wp2_with fail
        obtain ⟨wo, rfl⟩ : ∃ wo : World, wo = w4 := ⟨_, rfl⟩
        go_loopw [6, 7, 8, 9, 10] (fun e la i _ _ wr => OrdI P L.l.length wo e la i wr) (fun _ _ i _ _ _ => L.l.length - (intOf i).toNat)
        case atStart => exact ⟨0, Nat.zero_le _, rfl, rfl, rfl, Below.refl _ _⟩
        case round =>
          obtain ⟨k, hk, rfl, rfl, rfl, hbw⟩ := hrel
          obtain ⟨wa, hwa⟩ : ∃ w : World, w = wr := ⟨_, rfl⟩
          subst hwa
          have ba := b4.keep hbw
          have hBa := hB4.trans (hbw.mono hB4.size)
          have hla := ba.lt
          by_cases hlt : k < L.l.length
          · have _d := True.intro
            have hq := HPG.out k hlt
            obtain ⟨vb, vo, hVA, hvb, v0, v1, v2, v3⟩ := pgF_at (hV.keep hbw) hlt
            obtain ⟨m, hm⟩ := Int.eq_ofNat_of_zero_le hq.m0
            have hm1 := hq.m1
            have hqa : (atD Pg0 P k).at_ = endP 0 P k := hq.a
            have hql0 := hq.l0
            have hql1 := hq.l1
            have hqz := hq.z
            have hqe0 := hq.e0
            have hqe1 := hq.e1
            rw [hqa] at hqz hqe0 hqe1 v0
            rw [hm] at hqz hm1 v2
            rw [Int.toNat_natCast] at hqz
            have HEP : Hid (endP 0 P (k + 1) = (atD Pg0 P k).end_) := Lib.hid rfl
            have HPV : Hid (∀ W, Below wo.heap.size wo W → vb < W.heap.size ∧ W.cell? ⟨vb, vo + k * 4, none⟩ = some (.int .i64 (endP 0 P k)) ∧ W.cell? ⟨vb, vo + k * 4 + 1, none⟩ = some (.int .i64 (atD Pg0 P k).end_) ∧ W.cell? ⟨vb, vo + k * 4 + 2, none⟩ = some (.int .i64 (m : Int))) := Lib.hid fun W hW => by
              obtain ⟨vb', vo', e, h, h0, h1, h2, -⟩ := pgF_at (hV.keep hW) hlt
              rw [hVA] at e
              cases e
              rw [hqa] at h0
              rw [hm] at h2
              exact ⟨h, h0, h1, h2⟩
            clear hq hqa hm
            generalize endP 0 P k = en at v0 HPV hqz hqe0 hqe1 ⊢
            generalize (atD Pg0 P k).end_ = e2 at v1 HEP HPV hqz
            generalize (atD Pg0 P k).level = lv at v3 hql0 hql1
            have hml : m < x.modes.l.length := by omega
            have d1 : decide ((m : Int) < 0) = false := decide_eq_false (by omega)
            have d2 : decide (x.modes.l.length ≤ m) = false := decide_eq_false (by omega)
            have d3 : decide (lv < 0) = false := decide_eq_false (by omega)
            have d4 : decide ((x.shed.down.l.length : Int) < lv) = false := decide_eq_false (by omega)
            have c11 : wa.cell? ⟨gx, 11, none⟩ = some (.slice x.shed.down.A x.shed.down.l.length x.shed.down.c) := ba.cell 11
            obtain ⟨mb, mo, hMA, hmb, -⟩ := (rdMds.keep hx.2.2.1 hBa).1.at_ Md0 hml
            have HMV : Hid (∀ W, Below w.heap.size w W → mb < W.heap.size ∧ W.cell? ⟨mb, mo + m * 2, none⟩ = some (.int .i64 (atD Md0 x.modes.l m).frame) ∧ W.cell? ⟨mb, mo + m * 2 + 1, none⟩ = some (.slice (atD Md0 x.modes.l m).wins.A (atD Md0 x.modes.l m).wins.l.length (atD Md0 x.modes.l m).wins.c)) := Lib.hid fun W hW => by
              obtain ⟨b', o', e', hlt', hc⟩ := (rdMds.keep hx.2.2.1 hW).1.at_ Md0 hml
              rw [hMA] at e'
              cases e'
              exact ⟨hlt', hc 0 _ rfl, hc 1 _ rfl⟩
            have HME : Hid (∀ W, Below w.heap.size w W → (atD Md0 x.modes.l m).ok W) := Lib.hid fun W hW => (rdMds.keep hx.2.2.1 hW).2 _ (atD_mem (d := Md0) hml)
            obtain ⟨hF1, hF2, hW16, np, hWG⟩ := HG.out.2.2 m hml
            have HWG := Lib.hid hWG
            have HSAT := Lib.hid (fun j hj => slotsO_at (atD Md0 x.modes.l m) en (k := j) hj)
            have HSL : Hid ((slotsS (atD Md0 x.modes.l m) en).length = (atD Md0 x.modes.l m).wins.l.length) := Lib.hid (by simp [slotsS])
            have HMA := Lib.hid hMA
            have c2 : wa.cell? ⟨gx, 2, none⟩ = some (.slice (some ⟨mb, mo, none⟩) x.modes.l.length x.modes.c) := by rw [← hMA]; exact ba.cell 2
            clear hWG hMA hql0 hql1
            generalize atD Md0 x.modes.l m = md at HMV HME hF1 hF2 hW16 HWG HSAT HSL hqz
            have HQZ := Lib.hid hqz
            rw [hVA]
            clear hVA hqz
            go_upto_region 10 with fail
            go_quiet (fail)
            have hbn := below_drewN hbw nq
            go_upto_region 13 with fail
            generalize wa.drewN nq = wb at hbn ⊢
            clear v0 v1 v2 v3 c2 c11 hla hvb hmb
            have bb := b4.keep hbn
            have hBb := hB4.trans (hbn.mono hB4.size)
            have hlb := bb.lt
            obtain ⟨hvb, v0, v1, v2⟩ := HPV.out wb hbn
            obtain ⟨hmb, m0, m1⟩ := HMV.out wb hBb
            have c2 : wb.cell? ⟨gx, 2, none⟩ = some (.slice (some ⟨mb, mo, none⟩) x.modes.l.length x.modes.c) := by rw [← HMA.out]; exact bb.cell 2
            have hen : i64 en := by unfold i64; omega
            refine wp_region_fen (fun _ => False) [(14, 0)] (by kernel_rfl) (by kernel_rfl) ?_
            simp only [wpSegsF, List.take, List.drop]
            repeat (go_big_quiet_step (fail))
            refine wpQuiet_nil (wpHeadF_want rfl (fun K' hK' => ?_))
            go_wp2_with fail
            have hbd : Below wb.heap.size wb wb.drew := Below.drew (Below.refl _ wb)
            refine (slots_any md (w := wb.drew) (HME.out _ hBb.drew) (by omega) en hen).mono ?_
            rintro e w5 ⟨v, rfl, hown, hb5⟩
            obtain ⟨SA, sc, rfl, hS, -⟩ := SlG.of_own hown (fun _ _ => rfl) rfl
            replace hb5 := hbd.trans hb5
            refine hK' _ _ rfl (fr_graft (Fr.of_below hb5 _)) ?_
            clear hK' K' hown hbd
            try simp only [wpSegsF, List.take, List.drop]
            repeat (go_big_quiet_step (fail))
            refine wpQuiet_nil ?_
            have hbn5 := hbn.trans (hb5.mono hbn.size)
            have hB5 := hB4.trans (hbn5.mono hB4.size)
            clear hvb v0 v1 v2 hmb m0 m1 c2 hlb hb5
            rw [HSL.out] at hS ⊢
            obtain ⟨wz, hwz⟩ : ∃ wz : World, wz = w5 := ⟨_, rfl⟩
            subst hwz
            go_wp2_with fail
            obtain ⟨wz, rfl⟩ : ∃ wz' : World, wz' = wz := ⟨_, rfl⟩
            go_loopw [7, 10] (fun la i wr => SlotI md.wins.l en wz la i wr) (fun _ i _ => md.wins.l.length - (intOf i).toNat)
            case atStart => exact ⟨0, Nat.zero_le _, rfl, by rw [show endW md.wins.l 0 = 0 from rfl, Int.add_zero], Int.le_refl _, Below.refl _ _⟩
            case round =>
              obtain ⟨j, hj, rfl, rfl, hj0, hbz⟩ := hrel
              obtain ⟨wc, hwc⟩ : ∃ w : World, w = wr := ⟨_, rfl⟩
              subst hwc
              have hbc := hbn5.trans (hbz.mono hbn5.size)
              have hBc := hB4.trans (hbc.mono hB4.size)
              by_cases hjn : j < md.wins.l.length
              · have _d := True.intro
                obtain ⟨hvb, v0, v1, v2⟩ := HPV.out wc hbc
                obtain ⟨sb, so, hSA, hsb, s1, s2⟩ := stO_at (hS.keep hbz) hjn
                rw [HSAT.out j hjn] at s1 s2
                simp only [slotS] at s1 s2
                obtain ⟨g1, g2, g3, g4, g5, g6, g7⟩ := slot_good (HWG.out j hjn) hj0 hqe0 hqe1 hF2
                rw [g1] at s1 s2
                rw [g2] at s2
                have HG7 := Lib.hid g7
                clear g1 g2 g7 v2
                obtain ⟨tz, hto⟩ : ∃ tz, tz = en + endW md.wins.l (j + 1) := ⟨_, rfl⟩
                rw [← hto] at s2 g4 g6
                have HTO := Lib.hid hto
                clear hto
                generalize en + (atD Wn0 md.wins.l j).start = fr at s1 s2 g3 g4 g5
                generalize en + endW md.wins.l j = la at g3 ⊢
                have hqz := HQZ.out
                have t1 : decide (fr < la) = false := decide_eq_false (by omega)
                have t2 : decide (tz ≤ fr) = false := decide_eq_false (by omega)
                have t3 : decide (fr < en) = false := decide_eq_false (by omega)
                have t4 : decide (e2 < tz) = false := decide_eq_false (by omega)
                clear g3 g4 g5 g6 hqz
                rw [hSA]
                go_upto_region 17 with fail
                go_quiet (fail)
                go_wp2_with fail
                exact ⟨⟨j + 1, by omega, by go_num, by rw [HTO.out], HG7.out, below_drewN hbz nq⟩, by simp [intOf]; omega⟩

              · obtain rfl : j = md.wins.l.length := by omega
                go_wp2_with fail
                exact ⟨⟨k + 1, by omega, by go_num, by rw [HEP.out], by rw [HEP.out], hbc⟩, by simp [intOf]; omega⟩
          · obtain rfl : k = L.l.length := by omega
            go_wp2_with fail
            refine (works_any _).mono ?_
            rintro e w5 ⟨rfl, hb5⟩
            go_wp2_with fail
            go_ret
            exact ⟨rfl, hBa.trans (hb5.mono hBa.size)⟩
end Go.Proofs.Ytiglabknaldinaa
