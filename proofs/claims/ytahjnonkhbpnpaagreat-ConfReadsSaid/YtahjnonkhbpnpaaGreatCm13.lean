/- Words and walks for the claims of this seat, merged: RrDecode. -/
import Derived.Deep.MidRow
import Derived.Deep.DeepCutAuto
import Derived.Deep.CutRange
import Derived.Test.YtahjnonkhbpnpaaGreatCm11
import Derived.Test.YtahjnonkhbpnpaaGreatCm12
import Derived.Test.YtahjnonkhbpnpaaGreatCm6
/- The document's reader of a configuration: Decode. Printed by wip/gen_rr.py. -/
namespace Go.Proofs.YtahjnonkhbpnpaaGreat
open Go.RowKit
theorem setCells_eq (g : Nat) : ∀ (vs : List Value) (i : Nat) (w : World), w.setCells g i vs = setRow w g i vs
  | [], _, _ => rfl
  | v :: vs, i, w => by
    unfold World.setCells setRow
    exact setCells_eq g vs (i + 1) _
theorem Blk.there {w : World} {g n : Nat} {t : TypeId} {cs : Array Value} (h : Blk w g t cs) (hn : n ≤ cs.size) : w.there g 0 n := fun j hj => by
  rw [Nat.zero_add, h.cell j, h.frozen j]
  simp
  omega
set_option maxRecDepth 100000 in
set_option maxHeartbeats 25600000 in
theorem refDecode_any {w : World} {A : Option Addr} {n c : Nat} {l : List UInt8} (h : SlB w A n c l) (hn : n ≤ 65536) : Calls Tryz.prog 12 #[.slice A n c] w (DecPost l w) := by
  obtain ⟨s, hs⟩ : ∃ s : RS, s = ⟨l, 0⟩ := ⟨_, rfl⟩
  have HS : Hid (kCf s = (kL kI (kL kI (kPw (kL kMd (kL k4 (kL kPt s))))))) := rfl
  have hb0 := (Below.refl w.heap.size w).alloc (Nat.le_refl _) (.cells #[.slice none 0 0, .slice none 0 0, .slice none 0 0, .slice none 0 0, .slice none 0 0, .int .i64 0, .int .i64 0, .int .i64 0, .int .i64 0, .int .i64 0, .int .i64 0, .slice none 0 0, .slice none 0 0] 33)
  have bw0 := Blk.new w 33 #[.slice none 0 0, .slice none 0 0, .slice none 0 0, .slice none 0 0, .slice none 0 0, .int .i64 0, .int .i64 0, .int .i64 0, .int .i64 0, .int .i64 0, .int .i64 0, .slice none 0 0, .slice none 0 0]
  have hl0 := h.keep hb0
  have HZ0 : Hid ((w.alloc (.cells #[.slice none 0 0, .slice none 0 0, .slice none 0 0, .slice none 0 0, .slice none 0 0, .int .i64 0, .int .i64 0, .int .i64 0, .int .i64 0, .int .i64 0, .int .i64 0, .slice none 0 0, .slice none 0 0] 33)).heap.size = w.heap.size + 1) := World.size_alloc _ _
  go_enter Tryz.func12, Tryz.ntmps12
  go_upto_region 1 with fail
  generalize w.alloc (.cells #[.slice none 0 0, .slice none 0 0, .slice none 0 0, .slice none 0 0, .slice none 0 0, .int .i64 0, .int .i64 0, .int .i64 0, .int .i64 0, .int .i64 0, .int .i64 0, .slice none 0 0, .slice none 0 0] 33) = wa at hb0 bw0 hl0 HZ0 ⊢
  have hb1 := (Below.refl wa.heap.size wa).alloc (Nat.le_refl _) (.cells #[.slice A n c, .int .i64 0, .int .i64 0] 105)
  have bg := Blk.new wa 105 #[.slice A n c, .int .i64 0, .int .i64 0]
  have HZ1 : Hid ((wa.alloc (.cells #[.slice A n c, .int .i64 0, .int .i64 0] 105)).heap.size = wa.heap.size + 1) := World.size_alloc _ _
  have hl1 := hl0.keep hb1
  have bw1 := bw0.keep hb1
  go_upto_region 4 with fail
  generalize wa.alloc (.cells #[.slice A n c, .int .i64 0, .int .i64 0] 105) = wb at hb1 bg HZ1 hl1 bw1 ⊢
  have hb2 := (Below.refl wb.heap.size wb).alloc (Nat.le_refl _) (.cells #[.slice none 0 0, .slice none 0 0, .slice none 0 0, .slice none 0 0, .slice none 0 0, .int .i64 0, .int .i64 0, .int .i64 0, .int .i64 0, .int .i64 0, .int .i64 0, .slice none 0 0, .slice none 0 0] 33)
  have bpw0 := Blk.new wb 33 #[.slice none 0 0, .slice none 0 0, .slice none 0 0, .slice none 0 0, .slice none 0 0, .int .i64 0, .int .i64 0, .int .i64 0, .int .i64 0, .int .i64 0, .int .i64 0, .slice none 0 0, .slice none 0 0]
  have bg2 := bg.keep hb2
  have brw0 := bw1.keep hb2
  have hl2 := hl1.keep hb2
  go_upto_region 5 with fail
  generalize wb.alloc (.cells #[.slice none 0 0, .slice none 0 0, .slice none 0 0, .slice none 0 0, .slice none 0 0, .int .i64 0, .int .i64 0, .int .i64 0, .int .i64 0, .int .i64 0, .int .i64 0, .slice none 0 0, .slice none 0 0] 33) = w0 at hb2 bpw0 bg2 brw0 hl2 ⊢
  obtain ⟨gr, hgw⟩ : ∃ gr, gr = w.heap.size := ⟨_, rfl⟩
  obtain ⟨g, hg⟩ : ∃ g, g = wa.heap.size := ⟨_, rfl⟩
  obtain ⟨gp, hgp⟩ : ∃ gp, gp = wb.heap.size := ⟨_, rfl⟩
  rw [← hgp] at bpw0 ⊢
  rw [← hg] at bg2 ⊢
  rw [← hgw] at brw0 ⊢
  have hz0 := HZ0.out
  have hz1 := HZ1.out
  have hle : w.heap.size ≤ gr := Nat.le_of_eq hgw.symm
  have hgra := brw0.lt
  have hrg : ¬ gr = g := by omega
  have hpg : ¬ gp = g := by omega
  have hrp : ¬ gr = gp := by omega
  have hgg : g < gp := by omega
  have hlr : gr < gp := by omega
  have hrg2 : gr < g := by omega
  have hBr : Below w.heap.size w w0 := (hb0.trans (hb1.mono hb0.size)).trans (hb2.mono (hb0.trans (hb1.mono hb0.size)).size)
  have hrw0 : RfSt w0 g A n c l s := ⟨hl2, fun b o h0 e => by
    obtain ⟨b', o', e', hb', _⟩ := h.1.at_ h0
    rw [e] at e'
    cases e'
    omega, by omega, 0, by rw [hs]; exact bg2, fun _ => ⟨Nat.zero_le _, by rw [hs]; rfl⟩⟩
  have HSL := Lib.hid hs
  have Fw0 : Fr (fun q => q = g ∨ q = gp) w0 w0 := Fr.refl _ _
  clear hgw hg hgp hb0 hb1 hb2 bg bg2 hl0 hl1 hl2 bw0 bw1 hz0 hz1 HZ0 HZ1 hs
  go_wp2_with fail
  have V1 := Lib.hid (kHead_v (s := s))
  have M1 := manyV_rng s
  have K1 := Lib.hid (kL_many kPt s)
  have u1 := Lib.hid (kL_stick (f := kPt) (s := s))
  refine (rrMany_any hrw0).mono ?_
  rintro e w1 ⟨rfl, hrw1, hf⟩
  obtain ⟨N1, hN⟩ := Int.eq_ofNat_of_zero_le M1.1
  rw [hN] at M1 K1 V1 ⊢
  rw [Int.toNat_natCast] at K1
  clear hN
  generalize kHead s = t1 at hrw1 K1 V1
  generalize hKL : kL kPt s = z1 at HS K1 u1
  clear hKL
  have hc : Fr (fun q => q = g ∨ q = gp) w0 w1 := hf.mono (fun q _ e => .inl e)
  have bpw1 := bpw0.fr hf hpg
  have lpsw1 := bpw1.lt
  have brw1 := brw0.fr hc (fun h => h.elim hrg hrp)
  have Fw1 := Fw0.trans hc
  clear brw0 Fw0
  clear hf hc hrw0 bpw0
  go_wp2_with fail
  go_loopw [7] (fun ic  wr => ∃ (v : Value) (k : Nat) (dn : List Pt) (sc : RS), k ≤ N1 ∧ ic = .int .i64 k ∧ dn.length = k ∧ wr.ownsRow w1.heap.size 55 11 v k (dn.flatMap rdPt.f) ∧ (∀ x ∈ dn, rdPt.ok wr x) ∧ (∀ x ∈ dn, ∀ b, ftPt.blk x b → w1.heap.size ≤ b ∧ v.ownBlock ≠ some b) ∧ RfSt wr g A n c l sc ∧ Blk wr gp 33 #[v, .slice none 0 0, .slice none 0 0, .slice none 0 0, .slice none 0 0, .int .i64 0, .int .i64 0, .int .i64 0, .int .i64 0, .int .i64 0, .int .i64 0, .slice none 0 0, .slice none 0 0] ∧ Fr (fun q => q = g ∨ q = gp) w1 wr ∧ Hid (kRep kPt N1 t1 = kRep kPt (N1 - k) sc) ∧ Hid (sc.e = 0 → t1.e = 0 ∧ t1.l = dn.flatMap encPt ++ sc.l ∧ dn.any badPt = false)) (fun ic  _ => N1 - (intOf ic).toNat)
  case atStart => exact ⟨_, 0, [], t1, Nat.zero_le _, rfl, rfl, World.ownsRow_nil _ _ _ _, (fun x h => by cases h), (fun x h => by cases h), hrw1, bpw1, Fr.refl _ _, by unfold Hid; simp, fun h => ⟨h, rfl, rfl⟩⟩
  case round =>
    obtain ⟨v, k, dn, s1, hk, rfl, hdl, hown, hok, hbl, hr, bp, hfw, HG, HC⟩ := hrel
    obtain ⟨w2, hwo⟩ : ∃ w : World, w = wr := ⟨_, rfl⟩
    subst hwo
    have hsz := hfw.size
    have hgw := hr.lt
    have d2 : w2.cell? ⟨g, 2, none⟩ = some (.int .i64 s1.e) := by
      obtain ⟨_, _, _, ra, rb, _⟩ := hr
      exact rb.cell 2
    go_upto_region 7 with fail
    go_cut [31] from 22 to 40 (fun c wx => c = .bool (decide (k < N1 ∧ s1.e = 0)) ∧ w2 = wx)
    case first =>
      by_cases hlt : k < N1
      · by_cases he : s1.e = 0
        · have he' : (s1.e == 0) = true := by simpa using he
          go_wp2_with fail
          go_meet
          exact ⟨by rw [decide_eq_true ⟨hlt, he⟩], rfl⟩
        · have he' : (s1.e == 0) = false := by simpa using he
          go_wp2_with fail
          go_meet
          exact ⟨by rw [decide_eq_false (fun h => he h.2)], rfl⟩
      · go_wp2_with fail
        go_meet
        exact ⟨by rw [decide_eq_false (fun h => hlt h.1)], rfl⟩
    case rest =>
      obtain ⟨rfl, hwc⟩ := hcut
      subst hwc
      by_cases hlt : k < N1 ∧ s1.e = 0
      · have _d := True.intro
        have hd : decide (k < N1 ∧ s1.e = 0) = true := decide_eq_true hlt
        obtain ⟨hlt, he⟩ := hlt
        rw [hd]
        clear hd d2
        have HM : Hid (kRep kPt N1 t1 = kRep kPt (N1 - (k + 1)) (kPt s1)) := by
          unfold Hid
          rw [HG.out, show N1 - k = (N1 - (k + 1)) + 1 by omega, kRep_more he]
        have HC2 := Lib.hid (HC.out he)
        clear HG HC he
        have HK : Hid (kPt s1 = kPt s1) := rfl
        go_wp2_with fail
        have hfa : Fr (fun q => q = g) w2 w2 := Fr.refl _ _
        have hvp : ¬ v.ownBlock = some gp := fun e => by have := (hown.lt gp e).1; omega
        have hvg : ¬ v.ownBlock = some g := fun e => by have := (hown.lt g e).1; omega
        have bpa := bp.fr hfa hpg
        have pf : w2.cell? ⟨gp, 0, none⟩ = some v := bpa.cell 0
        have lpa := bpa.lt
        have hSp : ¬ (gp = g ∨ v.ownBlock = some gp) := fun h => h.elim hpg hvp
        refine wp_region_fen (fun j => j = g ∨ v.ownBlock = some j) [(3, 0), (0, 0), (0, 0), (1, 2)] (by kernel_rfl) (by kernel_rfl) ?_
        simp only [wpSegsF, List.take, List.drop]
        repeat (go_big_quiet_step (fail))
        refine wpQuiet_nil (wpHeadF_want rfl (fun K' hK' => ?_))
        go_wp2_with fail
        refine (rr_Pt (w := w2.drew) hr).mono ?_
        rintro e w3 ⟨y0, rfl, hoy, hby, hrw3, hfw3, x0⟩
        clear HK
        generalize kPt s1 = s1x0 at hrw3 HM x0
        unfold Pt.v
        try unfold Hd.v
        replace hfw3 : Fr (fun q => q = g) w2 w3 := (Fr.drew (Fr.refl _ w2)).trans hfw3
        replace hfa := hfa.trans hfw3
        refine hK' _ _ rfl (fr_graft (hfw3.mono (fun q _ e => .inl e))) ?_
        clear hK' K'
        try simp only [wpSegsF, List.take, List.drop]
        repeat (go_big_quiet_step (fail))
        refine wpQuiet_nil (wpHeadF_want rfl (fun K' hK' => ?_))
        go_wp2_with fail
        refine hK' _ _ rfl (fr_graft ((hfw3.mono (S' := fun q => q = g ∨ v.ownBlock = some q) (fun q _ e => .inl e)).alloc _)) ?_
        clear hK' K'
        try simp only [List.take, List.drop]
        repeat (go_big_quiet_step (fail))
        refine wpQuiet_nil (wpHeadF_want rfl (fun K' hK' => ?_))
        have hownB := own_far hown hfa (fun q e => by omega)
        have hzB := hfa.size
        obtain ⟨i0, hi0, hz0, hz1, hz2⟩ := info_parts PtG_info
        refine wp_app_blk _ _ _ 22 (by rfl) w1.heap.size 55 i0 _ 11 200 (by kernel_rfl) hi0 hz0 hz1 hz2 rfl (by decide) (by decide) v k _ (by rfl) (hownB.alloc _) w3.heap.size #[.slice y0.regs.A y0.regs.l.length y0.regs.c, .slice y0.procs.A y0.procs.l.length y0.procs.c, .slice y0.ports.A y0.ports.l.length y0.ports.c, .slice y0.sems.A y0.sems.l.length y0.sems.c, .int .i64 y0.flags, .slice y0.pools.A y0.pools.l.length y0.pools.c, .slice y0.slates.A y0.slates.l.length y0.slates.c, .int .i64 y0.cap, .int .i64 y0.bud, .int .i64 y0.lad, .slice y0.acts.A y0.acts.l.length y0.acts.c] rfl (by simp [Value.oneCell']) (Blk.new _ _ _) (by rfl) (by omega) (by have := World.size_alloc w3 (.cells #[.slice y0.regs.A y0.regs.l.length y0.regs.c, .slice y0.procs.A y0.procs.l.length y0.procs.c, .slice y0.ports.A y0.ports.l.length y0.ports.c, .slice y0.sems.A y0.sems.l.length y0.sems.c, .int .i64 y0.flags, .slice y0.pools.A y0.pools.l.length y0.pools.c, .slice y0.slates.A y0.slates.l.length y0.slates.c, .int .i64 y0.cap, .int .i64 y0.bud, .int .i64 y0.lad, .slice y0.acts.A y0.acts.l.length y0.acts.c] 55); omega) ?_
        intro gg cap w4 hownC hfC hatC
        replace hfC : Fr (fun q => v.ownBlock = some q) w3 w4 := ((Fr.refl _ w3).alloc _).trans hfC
        rw [World.size_alloc] at hatC
        refine hK' _ _ rfl (fr_graft ((hfw3.mono (S' := fun q => q = g ∨ v.ownBlock = some q) (fun q _ e => .inl e)).trans (hfC.mono (fun q _ e => .inr e)))) ?_
        clear hK' K'
        try simp only [List.take, List.drop]
        simp only [Act.put, List.setIfInBounds_toArray, List.set_cons_succ, List.set_cons_zero]
        repeat (go_big_quiet_step (fail))
        have bpd := (bp.fr hfa hpg).fr hfC hvp
        have pd : w4.cell? ⟨gp, 0, none⟩ = some v := bpd.cell 0
        have fzd : ∀ i, w4.frozen? ⟨gp, i, none⟩ = false := bpd.frozen
        have lpd := bpd.lt
        refine wpQuiet_nil (wpHeadF_bar rfl (fun K' hK' => ?_))
        go_wp2_with fail
        refine hK' _ _ (fun _ => False) rfl ?_
        clear hK' K'
        try simp only [wpSegsF]
        repeat (go_big_quiet_step (fail))
        refine wpQuiet_nil ?_
        have bpe : Blk (w4.setCell ⟨gp, 0, none⟩ (.slice (some ⟨gg, 0, none⟩) (k + 1) cap)) gp 33 #[.slice (some ⟨gg, 0, none⟩) (k + 1) cap, .slice none 0 0, .slice none 0 0, .slice none 0 0, .slice none 0 0, .int .i64 0, .int .i64 0, .int .i64 0, .int .i64 0, .int .i64 0, .int .i64 0, .slice none 0 0, .slice none 0 0] := bpd.set_ 0 _
        have hse : Fr (fun q => q = gp) w4 (w4.setCell ⟨gp, 0, none⟩ (.slice (some ⟨gg, 0, none⟩) (k + 1) cap)) := (Fr.refl (fun q => q = gp) w4).setCell (p := ⟨gp, 0, none⟩) (fun _ => rfl) _
        have hre := (hrw3.fr hfC (fun q e => by have := (hownB.lt q e).1; omega)).fr hse (fun q e => by omega)
        have hgge : w1.heap.size ≤ gg := (hownC.lt gg rfl).1
        have howne := own_fr hownC hse (fun q _ e h => by cases e; omega)
        generalize w4.setCell ⟨gp, 0, none⟩ (.slice (some ⟨gg, 0, none⟩) (k + 1) cap) = w5 at bpe hse hre howne ⊢
        have hfe : Fr (fun q => q = g ∨ q = gp) w1 w5 := ((hfw.trans (hfa.mono (fun q _ e => .inl e))).trans' (hfC.mono (S' := fun q => v.ownBlock = some q) (fun q _ e => e)) (fun q hq e => by have := (hownB.lt q e).1; omega)).trans (hse.mono (fun q _ e => .inr e))
        have HC4 : Hid (s1x0.e = 0 → t1.e = 0 ∧ t1.l = (dn ++ [y0]).flatMap encPt ++ s1x0.l ∧ (dn ++ [y0]).any badPt = false) := fun he => by
          obtain ⟨l0, a0⟩ := x0.out he
          obtain ⟨c0, c1, c2⟩ := HC2.out
          refine ⟨c0, ?_, ?_⟩
          · rw [c1, List.flatMap_append, l0]
            simp only [List.flatMap_cons, List.flatMap_nil, List.append_nil, List.append_assoc]
          · rw [List.any_append, c2, List.any_cons, a0]
            rfl
        have hne3 : ∀ x ∈ dn, ∀ b, ftPt.blk x b → ¬ b = g := fun x hx b hb e => by have := (hbl x hx b hb).1; omega
        have hokB : ∀ x ∈ dn, rdPt.ok w3 x := fun x hx => ftPt.fr (hok x hx) hfa (hne3 x hx)
        have hby2 : ∀ b, ftPt.blk y0 b → v.ownBlock ≠ some b := fun b hb e => by have h9 : w2.heap.size ≤ b := hby b hb; have := (hown.lt b e).2; omega
        have hoky2 := ftPt.fr (ftPt.fr hoy hfC (fun b hb e => hby2 b hb e)) hse (fun b hb e => by have h9 : w2.heap.size ≤ b := hby b hb; omega)
        have hok4 : ∀ x ∈ dn ++ [y0], rdPt.ok w5 x := fun x hx => by
          rcases List.mem_append.1 hx with hx | hx
          · exact ftPt.fr (ftPt.fr (hokB x hx) hfC (fun b hb e => (hbl x hx b hb).2 e)) hse (fun b hb e => by have := (hbl x hx b hb).1; omega)
          · obtain rfl := List.mem_singleton.1 hx
            exact hoky2
        have hbl4 : ∀ x ∈ dn ++ [y0], ∀ b, ftPt.blk x b → w1.heap.size ≤ b ∧ (Value.slice (some ⟨gg, 0, none⟩) (k + 1) cap).ownBlock ≠ some b := fun x hx b hb => by
          have hx2 : w1.heap.size ≤ b ∧ v.ownBlock ≠ some b ∧ b < w3.heap.size := by
            rcases List.mem_append.1 hx with hx | hx
            · exact ⟨(hbl x hx b hb).1, (hbl x hx b hb).2, ftPt.lt (hokB x hx) hb⟩
            · obtain rfl := List.mem_singleton.1 hx
              have h9 : w2.heap.size ≤ b := hby b hb
              exact ⟨by omega, hby2 b hb, ftPt.lt hoy hb⟩
          refine ⟨hx2.1, fun e => ?_⟩
          have e2 : gg = b := Option.some.inj e
          subst e2
          rcases hatC with h | h
          · exact hx2.2.1 h
          · omega
        clear hownC hatC hownB
        go_wp2_with fail
        exact ⟨⟨_, k + 1, dn ++ [y0], s1x0, by omega, by go_num, by simp [hdl], by rw [List.flatMap_append]; simpa [rdPt, Pt.f, Hd.v] using howne, hok4, hbl4, hre, bpe, hfe, HM, HC4⟩, by simp [intOf]; omega⟩
      · have hd : decide (k < N1 ∧ s1.e = 0) = false := decide_eq_false hlt
        rw [hd]
        clear hd d2
        have HFIN : Hid (z1 = s1) := by
          unfold Hid
          rw [K1.out, HG.out]
          by_cases hkn : k < N1
          · exact kRep_err (fun h => hlt ⟨hkn, h⟩)
          · rw [show N1 - k = 0 by omega]
            rfl
        have v1 : Hid (s1.e = 0 → s.l = lst encPt dn ++ s1.l ∧ badL badPt dn = false) := fun he => by
          obtain ⟨c0, c1, c2⟩ := HC.out he
          have hkn : k = N1 := by
            by_cases hkn : k < N1
            · exact absurd ⟨hkn, he⟩ hlt
            · omega
          refine ⟨?_, ?_⟩
          · rw [V1.out c0, c1, ← hkn, ← hdl]
            unfold lst
            rw [List.append_assoc]
          · unfold badL
            rw [c2, hdl]
            simp
            omega
        rw [HFIN.out] at HS u1
        obtain ⟨A9, c9, hv9, hs9, hb9⟩ := SlG.of_own hown (fun x _ => rdPt.len x) hdl
        rw [hv9] at bp
        obtain ⟨n1, hn1⟩ : ∃ h : Hd Pt, h = ⟨A9, c9, dn⟩ := ⟨_, rfl⟩
        have eA : A9 = n1.A := by rw [hn1]
        have ec : c9 = n1.c := by rw [hn1]
        have el : dn = n1.l := by rw [hn1]
        have o1 : n1.ok rdPt w2 := by rw [hn1]; exact ⟨by rw [← hdl] at hs9; exact hs9, hok⟩
        have q1 : ∀ b, blkH ftPt n1 b → gp < b ∧ g < b := fun b hb => by
          rw [hn1] at hb
          have h9 : w1.heap.size ≤ b := by
            rcases hb with ⟨_, o, e⟩ | ⟨x, hx, hb⟩
            · exact hb9 b o e
            · exact (hbl x hx b hb).1
          exact ⟨by omega, by omega⟩
        rw [el] at v1 hdl
        rw [eA, ec, ← hdl] at bp
        clear hdl hn1 eA ec el hs9 hb9 hv9 hok hbl hown HG HC V1 K1 HFIN hlt
        have hrw2 := hr
        have bpw2 := bp
        clear hr bp
        have brw2 := brw1.fr hfw (fun h => h.elim hrg hrp)
        have Fw2 := Fw1.trans hfw
        clear brw1 Fw1
        clear hfw hrw1 bpw1 lpsw1 hsz hgw
        go_wp2_with fail
        have V2 := Lib.hid (kHead_v (s := s1))
        have M2 := manyV_rng s1
        have K2 := Lib.hid (kL_many k4 s1)
        have u2 := Lib.hid (kL_stick (f := k4) (s := s1))
        refine (rrMany_any hrw2).mono ?_
        rintro e w6 ⟨rfl, hrw6, hf⟩
        obtain ⟨N2, hN⟩ := Int.eq_ofNat_of_zero_le M2.1
        rw [hN] at M2 K2 V2 ⊢
        rw [Int.toNat_natCast] at K2
        clear hN
        generalize kHead s1 = t2 at hrw6 K2 V2
        generalize hKL : kL k4 s1 = z2 at HS K2 u2
        clear hKL
        have hc : Fr (fun q => q = g ∨ q = gp) w2 w6 := hf.mono (fun q _ e => .inl e)
        have bpw6 := bpw2.fr hf hpg
        have lpsw6 := bpw6.lt
        have brw6 := brw2.fr hc (fun h => h.elim hrg hrp)
        have Fw6 := Fw2.trans hc
        replace o1 := okH_fr ftPt o1 hc (fun b hb e => by have := q1 b hb; omega)
        clear brw2 Fw2
        clear hf hc hrw2 bpw2
        go_wp2_with fail
        go_loopw [8, 9, 10, 11] (fun ic _ _ _ wr => ∃ (v : Value) (k : Nat) (dn : List Ch) (sc : RS), k ≤ N2 ∧ ic = .int .i64 k ∧ dn.length = k ∧ wr.ownsRow w6.heap.size 72 4 v k (dn.flatMap rdCh.f) ∧ (∀ x ∈ dn, rdCh.ok wr x) ∧ (∀ x ∈ dn, ∀ b, ftCh.blk x b → w6.heap.size ≤ b ∧ v.ownBlock ≠ some b) ∧ RfSt wr g A n c l sc ∧ Blk wr gp 33 #[.slice n1.A n1.l.length n1.c, v, .slice none 0 0, .slice none 0 0, .slice none 0 0, .int .i64 0, .int .i64 0, .int .i64 0, .int .i64 0, .int .i64 0, .int .i64 0, .slice none 0 0, .slice none 0 0] ∧ Fr (fun q => q = g ∨ q = gp) w6 wr ∧ Hid (kRep k4 N2 t2 = kRep k4 (N2 - k) sc) ∧ Hid (sc.e = 0 → t2.e = 0 ∧ t2.l = dn.flatMap encCh ++ sc.l ∧ dn.any noB = false)) (fun ic _ _ _ _ => N2 - (intOf ic).toNat)
        case atStart => exact ⟨_, 0, [], t2, Nat.zero_le _, rfl, rfl, World.ownsRow_nil _ _ _ _, (fun x h => by cases h), (fun x h => by cases h), hrw6, bpw6, Fr.refl _ _, by unfold Hid; simp, fun h => ⟨h, rfl, rfl⟩⟩
        case round =>
          obtain ⟨v, k, dn, s2, hk, rfl, hdl, hown, hok, hbl, hr, bp, hfw, HG, HC⟩ := hrel
          obtain ⟨w7, hwo⟩ : ∃ w : World, w = wr := ⟨_, rfl⟩
          subst hwo
          have hsz := hfw.size
          have hgw := hr.lt
          have d2 : w7.cell? ⟨g, 2, none⟩ = some (.int .i64 s2.e) := by
            obtain ⟨_, _, _, ra, rb, _⟩ := hr
            exact rb.cell 2
          go_upto_region 12 with fail
          go_cut [52] from 43 to 73 (fun c wx => c = .bool (decide (k < N2 ∧ s2.e = 0)) ∧ w7 = wx)
          case first =>
            by_cases hlt : k < N2
            · by_cases he : s2.e = 0
              · have he' : (s2.e == 0) = true := by simpa using he
                go_wp2_with fail
                go_meet
                exact ⟨by rw [decide_eq_true ⟨hlt, he⟩], rfl⟩
              · have he' : (s2.e == 0) = false := by simpa using he
                go_wp2_with fail
                go_meet
                exact ⟨by rw [decide_eq_false (fun h => he h.2)], rfl⟩
            · go_wp2_with fail
              go_meet
              exact ⟨by rw [decide_eq_false (fun h => hlt h.1)], rfl⟩
          case rest =>
            obtain ⟨rfl, hwc⟩ := hcut
            subst hwc
            by_cases hlt : k < N2 ∧ s2.e = 0
            · have _d := True.intro
              have hd : decide (k < N2 ∧ s2.e = 0) = true := decide_eq_true hlt
              obtain ⟨hlt, he⟩ := hlt
              rw [hd]
              clear hd d2
              have HM : Hid (kRep k4 N2 t2 = kRep k4 (N2 - (k + 1)) (k4 s2)) := by
                unfold Hid
                rw [HG.out, show N2 - k = (N2 - (k + 1)) + 1 by omega, kRep_more he]
              have HC2 := Lib.hid (HC.out he)
              clear HG HC he
              have HK : Hid (k4 s2 = (gInt (gInt (gInt (gInt s2).2).2).2).2) := rfl
              go_wp2_with fail
              refine (rrInt_any hr).mono ?_
              rintro e w8 ⟨rfl, hrw8, hfw8⟩
              have j0 := gInt_rng s2
              have x0 := Lib.hid (gInt_inv (s := s2))
              generalize (gInt s2).1 = y0 at x0 j0 ⊢
              generalize (gInt s2).2 = s2x0 at hrw8 HK x0
              have hfa := hfw8
              go_wp2_with fail
              refine (rrInt_any hrw8).mono ?_
              rintro e w9 ⟨rfl, hrw9, hfw9⟩
              have j1 := gInt_rng s2x0
              have x1 := Lib.hid (gInt_inv (s := s2x0))
              generalize (gInt s2x0).1 = y1 at x1 j1 ⊢
              generalize (gInt s2x0).2 = s2x1 at hrw9 HK x1
              replace hfa := hfa.trans hfw9
              go_wp2_with fail
              refine (rrInt_any hrw9).mono ?_
              rintro e w10 ⟨rfl, hrw10, hfw10⟩
              have j2 := gInt_rng s2x1
              have x2 := Lib.hid (gInt_inv (s := s2x1))
              generalize (gInt s2x1).1 = y2 at x2 j2 ⊢
              generalize (gInt s2x1).2 = s2x2 at hrw10 HK x2
              replace hfa := hfa.trans hfw10
              go_wp2_with fail
              have hvp : ¬ v.ownBlock = some gp := fun e => by have := (hown.lt gp e).1; omega
              have hvg : ¬ v.ownBlock = some g := fun e => by have := (hown.lt g e).1; omega
              have bpa := bp.fr hfa hpg
              have pf : w10.cell? ⟨gp, 1, none⟩ = some v := bpa.cell 1
              have lpa := bpa.lt
              have hSp : ¬ (gp = g ∨ v.ownBlock = some gp) := fun h => h.elim hpg hvp
              refine wp_region_fen (fun j => j = g ∨ v.ownBlock = some j) [(7, 0), (2, 0), (0, 0), (1, 2)] (by kernel_rfl) (by kernel_rfl) ?_
              simp only [wpSegsF, List.take, List.drop]
              repeat (go_big_quiet_step (fail))
              refine wpQuiet_nil (wpHeadF_want rfl (fun K' hK' => ?_))
              go_wp2_with fail
              refine (rrInt_any (w := w10.drew) hrw10).mono ?_
              rintro e w11 ⟨rfl, hrw11, hfw11⟩
              have j3 := gInt_rng s2x2
              have x3 := Lib.hid (gInt_inv (s := s2x2))
              generalize (gInt s2x2).1 = y3 at x3 j3 ⊢
              generalize (gInt s2x2).2 = s2x3 at hrw11 HK x3
              replace hfw11 : Fr (fun q => q = g) w10 w11 := (Fr.drew (Fr.refl _ w10)).trans hfw11
              replace hfa := hfa.trans hfw11
              refine hK' _ _ rfl (fr_graft (hfw11.mono (fun q _ e => .inl e))) ?_
              clear hK' K'
              try simp only [List.take, List.drop]
              repeat (go_big_quiet_step (fail))
              refine wpQuiet_nil (wpHeadF_want rfl (fun K' hK' => ?_))
              go_wp2_with fail
              refine hK' _ _ rfl (fr_graft ((hfw11.mono (S' := fun q => q = g ∨ v.ownBlock = some q) (fun q _ e => .inl e)).alloc _)) ?_
              clear hK' K'
              try simp only [List.take, List.drop]
              repeat (go_big_quiet_step (fail))
              refine wpQuiet_nil (wpHeadF_want rfl (fun K' hK' => ?_))
              have hownB := own_far hown hfa (fun q e => by omega)
              have hzB := hfa.size
              obtain ⟨i0, hi0, hz0, hz1, hz2⟩ := info_parts ChG_info
              refine wp_app_blk _ _ _ 23 (by rfl) w6.heap.size 72 i0 _ 4 32 (by kernel_rfl) hi0 hz0 hz1 hz2 rfl (by decide) (by decide) v k _ (by rfl) (hownB.alloc _) w11.heap.size #[.int .i64 y0, .int .i64 y1, .int .i64 y2, .int .i64 y3] rfl (by simp [Value.oneCell']) (Blk.new _ _ _) (by rfl) (by omega) (by have := World.size_alloc w11 (.cells #[.int .i64 y0, .int .i64 y1, .int .i64 y2, .int .i64 y3] 72); omega) ?_
              intro gg cap w12 hownC hfC hatC
              replace hfC : Fr (fun q => v.ownBlock = some q) w11 w12 := ((Fr.refl _ w11).alloc _).trans hfC
              rw [World.size_alloc] at hatC
              refine hK' _ _ rfl (fr_graft ((hfw11.mono (S' := fun q => q = g ∨ v.ownBlock = some q) (fun q _ e => .inl e)).trans (hfC.mono (fun q _ e => .inr e)))) ?_
              clear hK' K'
              try simp only [List.take, List.drop]
              simp only [Act.put, List.setIfInBounds_toArray, List.set_cons_succ, List.set_cons_zero]
              repeat (go_big_quiet_step (fail))
              have bpd := (bp.fr hfa hpg).fr hfC hvp
              have pd : w12.cell? ⟨gp, 1, none⟩ = some v := bpd.cell 1
              have fzd : ∀ i, w12.frozen? ⟨gp, i, none⟩ = false := bpd.frozen
              have lpd := bpd.lt
              refine wpQuiet_nil (wpHeadF_bar rfl (fun K' hK' => ?_))
              go_wp2_with fail
              refine hK' _ _ (fun _ => False) rfl ?_
              clear hK' K'
              try simp only [wpSegsF]
              repeat (go_big_quiet_step (fail))
              refine wpQuiet_nil ?_
              have bpe : Blk (w12.setCell ⟨gp, 1, none⟩ (.slice (some ⟨gg, 0, none⟩) (k + 1) cap)) gp 33 #[.slice n1.A n1.l.length n1.c, .slice (some ⟨gg, 0, none⟩) (k + 1) cap, .slice none 0 0, .slice none 0 0, .slice none 0 0, .int .i64 0, .int .i64 0, .int .i64 0, .int .i64 0, .int .i64 0, .int .i64 0, .slice none 0 0, .slice none 0 0] := bpd.set_ 1 _
              have hse : Fr (fun q => q = gp) w12 (w12.setCell ⟨gp, 1, none⟩ (.slice (some ⟨gg, 0, none⟩) (k + 1) cap)) := (Fr.refl (fun q => q = gp) w12).setCell (p := ⟨gp, 1, none⟩) (fun _ => rfl) _
              have hre := (hrw11.fr hfC (fun q e => by have := (hownB.lt q e).1; omega)).fr hse (fun q e => by omega)
              have hgge : w6.heap.size ≤ gg := (hownC.lt gg rfl).1
              have howne := own_fr hownC hse (fun q _ e h => by cases e; omega)
              generalize w12.setCell ⟨gp, 1, none⟩ (.slice (some ⟨gg, 0, none⟩) (k + 1) cap) = w13 at bpe hse hre howne ⊢
              have hfe : Fr (fun q => q = g ∨ q = gp) w6 w13 := ((hfw.trans (hfa.mono (fun q _ e => .inl e))).trans' (hfC.mono (S' := fun q => v.ownBlock = some q) (fun q _ e => e)) (fun q hq e => by have := (hownB.lt q e).1; omega)).trans (hse.mono (fun q _ e => .inr e))
              have HC4 : Hid (s2x3.e = 0 → t2.e = 0 ∧ t2.l = (dn ++ [(⟨⟨y0, y1⟩, ⟨y2, y3⟩⟩ : Ch)]).flatMap encCh ++ s2x3.l ∧ (dn ++ [(⟨⟨y0, y1⟩, ⟨y2, y3⟩⟩ : Ch)]).any noB = false) := fun he => by
                obtain ⟨a3, l3⟩ := x3.out he
                obtain ⟨a2, l2⟩ := x2.out a3
                obtain ⟨a1, l1⟩ := x1.out a2
                obtain ⟨a0, l0⟩ := x0.out a1
                obtain ⟨c0, c1, c2⟩ := HC2.out
                refine ⟨c0, ?_, ?_⟩
                · rw [c1, List.flatMap_append, l0, l1, l2, l3]
                  simp only [List.flatMap_cons, List.flatMap_nil, List.append_nil, List.append_assoc, encCh, intsB_cons, intsB_nil, List.append_nil, List.append_assoc]
                · rw [List.any_append, c2, List.any_cons]
                  rfl
              rw [HK.out] at HM
              have hok4 : ∀ x ∈ dn ++ [(⟨⟨y0, y1⟩, ⟨y2, y3⟩⟩ : Ch)], rdCh.ok w13 x := fun x hx => by
                rcases List.mem_append.1 hx with hx | hx
                · exact hok x hx
                · obtain rfl := List.mem_singleton.1 hx
                  exact ⟨⟨j0, j1⟩, ⟨j2, j3⟩⟩
              have hbl4 : ∀ x ∈ dn ++ [(⟨⟨y0, y1⟩, ⟨y2, y3⟩⟩ : Ch)], ∀ b, ftCh.blk x b → w6.heap.size ≤ b ∧ (Value.slice (some ⟨gg, 0, none⟩) (k + 1) cap).ownBlock ≠ some b := fun x hx b hb => hb.elim
              clear hownC hatC hownB
              go_wp2_with fail
              exact ⟨⟨_, k + 1, dn ++ [(⟨⟨y0, y1⟩, ⟨y2, y3⟩⟩ : Ch)], s2x3, by omega, by go_num, by simp [hdl], by rw [List.flatMap_append]; simpa [rdCh, Ch.f, Hd.v] using howne, hok4, hbl4, hre, bpe, hfe, HM, HC4⟩, by simp [intOf]; omega⟩
            · have hd : decide (k < N2 ∧ s2.e = 0) = false := decide_eq_false hlt
              rw [hd]
              clear hd d2
              have HFIN : Hid (z2 = s2) := by
                unfold Hid
                rw [K2.out, HG.out]
                by_cases hkn : k < N2
                · exact kRep_err (fun h => hlt ⟨hkn, h⟩)
                · rw [show N2 - k = 0 by omega]
                  rfl
              have v2 : Hid (s2.e = 0 → s1.l = lst encCh dn ++ s2.l ∧ badL noB dn = false) := fun he => by
                obtain ⟨c0, c1, c2⟩ := HC.out he
                have hkn : k = N2 := by
                  by_cases hkn : k < N2
                  · exact absurd ⟨hkn, he⟩ hlt
                  · omega
                refine ⟨?_, ?_⟩
                · rw [V2.out c0, c1, ← hkn, ← hdl]
                  unfold lst
                  rw [List.append_assoc]
                · unfold badL
                  rw [c2, hdl]
                  simp
                  omega
              rw [HFIN.out] at HS u2
              obtain ⟨A9, c9, hv9, hs9, hb9⟩ := SlG.of_own hown (fun x _ => rdCh.len x) hdl
              rw [hv9] at bp
              obtain ⟨n2, hn2⟩ : ∃ h : Hd Ch, h = ⟨A9, c9, dn⟩ := ⟨_, rfl⟩
              have eA : A9 = n2.A := by rw [hn2]
              have ec : c9 = n2.c := by rw [hn2]
              have el : dn = n2.l := by rw [hn2]
              have o2 : n2.ok rdCh w7 := by rw [hn2]; exact ⟨by rw [← hdl] at hs9; exact hs9, hok⟩
              have q2 : ∀ b, blkH ftCh n2 b → gp < b ∧ g < b := fun b hb => by
                rw [hn2] at hb
                have h9 : w6.heap.size ≤ b := by
                  rcases hb with ⟨_, o, e⟩ | ⟨x, hx, hb⟩
                  · exact hb9 b o e
                  · exact (hbl x hx b hb).1
                exact ⟨by omega, by omega⟩
              rw [el] at v2 hdl
              rw [eA, ec, ← hdl] at bp
              clear hdl hn2 eA ec el hs9 hb9 hv9 hok hbl hown HG HC V2 K2 HFIN hlt
              have hrw7 := hr
              have bpw7 := bp
              clear hr bp
              have brw7 := brw6.fr hfw (fun h => h.elim hrg hrp)
              have Fw7 := Fw6.trans hfw
              replace o1 := okH_fr ftPt o1 hfw (fun b hb e => by have := q1 b hb; omega)
              clear brw6 Fw6
              clear hfw hrw6 bpw6 lpsw6 hsz hgw
              go_wp2_with fail
              have V3 := Lib.hid (kHead_v (s := s2))
              have M3 := manyV_rng s2
              have K3 := Lib.hid (kL_many kMd s2)
              have u3 := Lib.hid (kL_stick (f := kMd) (s := s2))
              refine (rrMany_any hrw7).mono ?_
              rintro e w14 ⟨rfl, hrw14, hf⟩
              obtain ⟨N3, hN⟩ := Int.eq_ofNat_of_zero_le M3.1
              rw [hN] at M3 K3 V3 ⊢
              rw [Int.toNat_natCast] at K3
              clear hN
              generalize kHead s2 = t3 at hrw14 K3 V3
              generalize hKL : kL kMd s2 = z3 at HS K3 u3
              clear hKL
              have hc : Fr (fun q => q = g ∨ q = gp) w7 w14 := hf.mono (fun q _ e => .inl e)
              have bpw14 := bpw7.fr hf hpg
              have lpsw14 := bpw14.lt
              have brw14 := brw7.fr hc (fun h => h.elim hrg hrp)
              have Fw14 := Fw7.trans hc
              replace o1 := okH_fr ftPt o1 hc (fun b hb e => by have := q1 b hb; omega)
              replace o2 := okH_fr ftCh o2 hc (fun b hb e => by have := q2 b hb; omega)
              clear brw7 Fw7
              clear hf hc hrw7 bpw7
              go_wp2_with fail
              go_loopw [12] (fun ic  wr => ∃ (v : Value) (k : Nat) (dn : List Md) (sc : RS), k ≤ N3 ∧ ic = .int .i64 k ∧ dn.length = k ∧ wr.ownsRow w14.heap.size 58 2 v k (dn.flatMap rdMd.f) ∧ (∀ x ∈ dn, rdMd.ok wr x) ∧ (∀ x ∈ dn, ∀ b, ftMd.blk x b → w14.heap.size ≤ b ∧ v.ownBlock ≠ some b) ∧ RfSt wr g A n c l sc ∧ Blk wr gp 33 #[.slice n1.A n1.l.length n1.c, .slice n2.A n2.l.length n2.c, v, .slice none 0 0, .slice none 0 0, .int .i64 0, .int .i64 0, .int .i64 0, .int .i64 0, .int .i64 0, .int .i64 0, .slice none 0 0, .slice none 0 0] ∧ Fr (fun q => q = g ∨ q = gp) w14 wr ∧ Hid (kRep kMd N3 t3 = kRep kMd (N3 - k) sc) ∧ Hid (sc.e = 0 → t3.e = 0 ∧ t3.l = dn.flatMap encMd ++ sc.l ∧ dn.any badMd = false)) (fun ic  _ => N3 - (intOf ic).toNat)
              case atStart => exact ⟨_, 0, [], t3, Nat.zero_le _, rfl, rfl, World.ownsRow_nil _ _ _ _, (fun x h => by cases h), (fun x h => by cases h), hrw14, bpw14, Fr.refl _ _, by unfold Hid; simp, fun h => ⟨h, rfl, rfl⟩⟩
              case round =>
                obtain ⟨v, k, dn, s3, hk, rfl, hdl, hown, hok, hbl, hr, bp, hfw, HG, HC⟩ := hrel
                obtain ⟨w15, hwo⟩ : ∃ w : World, w = wr := ⟨_, rfl⟩
                subst hwo
                have hsz := hfw.size
                have hgw := hr.lt
                have d2 : w15.cell? ⟨g, 2, none⟩ = some (.int .i64 s3.e) := by
                  obtain ⟨_, _, _, ra, rb, _⟩ := hr
                  exact rb.cell 2
                go_upto_region 20 with fail
                go_cut [85] from 76 to 94 (fun c wx => c = .bool (decide (k < N3 ∧ s3.e = 0)) ∧ w15 = wx)
                case first =>
                  by_cases hlt : k < N3
                  · by_cases he : s3.e = 0
                    · have he' : (s3.e == 0) = true := by simpa using he
                      go_wp2_with fail
                      go_meet
                      exact ⟨by rw [decide_eq_true ⟨hlt, he⟩], rfl⟩
                    · have he' : (s3.e == 0) = false := by simpa using he
                      go_wp2_with fail
                      go_meet
                      exact ⟨by rw [decide_eq_false (fun h => he h.2)], rfl⟩
                  · go_wp2_with fail
                    go_meet
                    exact ⟨by rw [decide_eq_false (fun h => hlt h.1)], rfl⟩
                case rest =>
                  obtain ⟨rfl, hwc⟩ := hcut
                  subst hwc
                  by_cases hlt : k < N3 ∧ s3.e = 0
                  · have _d := True.intro
                    have hd : decide (k < N3 ∧ s3.e = 0) = true := decide_eq_true hlt
                    obtain ⟨hlt, he⟩ := hlt
                    rw [hd]
                    clear hd d2
                    have HM : Hid (kRep kMd N3 t3 = kRep kMd (N3 - (k + 1)) (kMd s3)) := by
                      unfold Hid
                      rw [HG.out, show N3 - k = (N3 - (k + 1)) + 1 by omega, kRep_more he]
                    have HC2 := Lib.hid (HC.out he)
                    clear HG HC he
                    have HK : Hid (kMd s3 = kMd s3) := rfl
                    go_wp2_with fail
                    have hfa : Fr (fun q => q = g) w15 w15 := Fr.refl _ _
                    have hvp : ¬ v.ownBlock = some gp := fun e => by have := (hown.lt gp e).1; omega
                    have hvg : ¬ v.ownBlock = some g := fun e => by have := (hown.lt g e).1; omega
                    have bpa := bp.fr hfa hpg
                    have pf : w15.cell? ⟨gp, 2, none⟩ = some v := bpa.cell 2
                    have lpa := bpa.lt
                    have hSp : ¬ (gp = g ∨ v.ownBlock = some gp) := fun h => h.elim hpg hvp
                    refine wp_region_fen (fun j => j = g ∨ v.ownBlock = some j) [(3, 0), (0, 0), (0, 0), (1, 2)] (by kernel_rfl) (by kernel_rfl) ?_
                    simp only [wpSegsF, List.take, List.drop]
                    repeat (go_big_quiet_step (fail))
                    refine wpQuiet_nil (wpHeadF_want rfl (fun K' hK' => ?_))
                    go_wp2_with fail
                    refine (rr_Md (w := w15.drew) hr).mono ?_
                    rintro e w16 ⟨y0, rfl, hoy, hby, hrw16, hfw16, x0⟩
                    clear HK
                    generalize kMd s3 = s3x0 at hrw16 HM x0
                    unfold Md.v
                    try unfold Hd.v
                    replace hfw16 : Fr (fun q => q = g) w15 w16 := (Fr.drew (Fr.refl _ w15)).trans hfw16
                    replace hfa := hfa.trans hfw16
                    refine hK' _ _ rfl (fr_graft (hfw16.mono (fun q _ e => .inl e))) ?_
                    clear hK' K'
                    try simp only [wpSegsF, List.take, List.drop]
                    repeat (go_big_quiet_step (fail))
                    refine wpQuiet_nil (wpHeadF_want rfl (fun K' hK' => ?_))
                    go_wp2_with fail
                    refine hK' _ _ rfl (fr_graft ((hfw16.mono (S' := fun q => q = g ∨ v.ownBlock = some q) (fun q _ e => .inl e)).alloc _)) ?_
                    clear hK' K'
                    try simp only [List.take, List.drop]
                    repeat (go_big_quiet_step (fail))
                    refine wpQuiet_nil (wpHeadF_want rfl (fun K' hK' => ?_))
                    have hownB := own_far hown hfa (fun q e => by omega)
                    have hzB := hfa.size
                    obtain ⟨i0, hi0, hz0, hz1, hz2⟩ := info_parts MdG_info
                    refine wp_app_blk _ _ _ 24 (by rfl) w14.heap.size 58 i0 _ 2 32 (by kernel_rfl) hi0 hz0 hz1 hz2 rfl (by decide) (by decide) v k _ (by rfl) (hownB.alloc _) w16.heap.size #[.int .i64 y0.frame, .slice y0.wins.A y0.wins.l.length y0.wins.c] rfl (by simp [Value.oneCell']) (Blk.new _ _ _) (by rfl) (by omega) (by have := World.size_alloc w16 (.cells #[.int .i64 y0.frame, .slice y0.wins.A y0.wins.l.length y0.wins.c] 58); omega) ?_
                    intro gg cap w17 hownC hfC hatC
                    replace hfC : Fr (fun q => v.ownBlock = some q) w16 w17 := ((Fr.refl _ w16).alloc _).trans hfC
                    rw [World.size_alloc] at hatC
                    refine hK' _ _ rfl (fr_graft ((hfw16.mono (S' := fun q => q = g ∨ v.ownBlock = some q) (fun q _ e => .inl e)).trans (hfC.mono (fun q _ e => .inr e)))) ?_
                    clear hK' K'
                    try simp only [List.take, List.drop]
                    simp only [Act.put, List.setIfInBounds_toArray, List.set_cons_succ, List.set_cons_zero]
                    repeat (go_big_quiet_step (fail))
                    have bpd := (bp.fr hfa hpg).fr hfC hvp
                    have pd : w17.cell? ⟨gp, 2, none⟩ = some v := bpd.cell 2
                    have fzd : ∀ i, w17.frozen? ⟨gp, i, none⟩ = false := bpd.frozen
                    have lpd := bpd.lt
                    refine wpQuiet_nil (wpHeadF_bar rfl (fun K' hK' => ?_))
                    go_wp2_with fail
                    refine hK' _ _ (fun _ => False) rfl ?_
                    clear hK' K'
                    try simp only [wpSegsF]
                    repeat (go_big_quiet_step (fail))
                    refine wpQuiet_nil ?_
                    have bpe : Blk (w17.setCell ⟨gp, 2, none⟩ (.slice (some ⟨gg, 0, none⟩) (k + 1) cap)) gp 33 #[.slice n1.A n1.l.length n1.c, .slice n2.A n2.l.length n2.c, .slice (some ⟨gg, 0, none⟩) (k + 1) cap, .slice none 0 0, .slice none 0 0, .int .i64 0, .int .i64 0, .int .i64 0, .int .i64 0, .int .i64 0, .int .i64 0, .slice none 0 0, .slice none 0 0] := bpd.set_ 2 _
                    have hse : Fr (fun q => q = gp) w17 (w17.setCell ⟨gp, 2, none⟩ (.slice (some ⟨gg, 0, none⟩) (k + 1) cap)) := (Fr.refl (fun q => q = gp) w17).setCell (p := ⟨gp, 2, none⟩) (fun _ => rfl) _
                    have hre := (hrw16.fr hfC (fun q e => by have := (hownB.lt q e).1; omega)).fr hse (fun q e => by omega)
                    have hgge : w14.heap.size ≤ gg := (hownC.lt gg rfl).1
                    have howne := own_fr hownC hse (fun q _ e h => by cases e; omega)
                    generalize w17.setCell ⟨gp, 2, none⟩ (.slice (some ⟨gg, 0, none⟩) (k + 1) cap) = w18 at bpe hse hre howne ⊢
                    have hfe : Fr (fun q => q = g ∨ q = gp) w14 w18 := ((hfw.trans (hfa.mono (fun q _ e => .inl e))).trans' (hfC.mono (S' := fun q => v.ownBlock = some q) (fun q _ e => e)) (fun q hq e => by have := (hownB.lt q e).1; omega)).trans (hse.mono (fun q _ e => .inr e))
                    have HC4 : Hid (s3x0.e = 0 → t3.e = 0 ∧ t3.l = (dn ++ [y0]).flatMap encMd ++ s3x0.l ∧ (dn ++ [y0]).any badMd = false) := fun he => by
                      obtain ⟨l0, a0⟩ := x0.out he
                      obtain ⟨c0, c1, c2⟩ := HC2.out
                      refine ⟨c0, ?_, ?_⟩
                      · rw [c1, List.flatMap_append, l0]
                        simp only [List.flatMap_cons, List.flatMap_nil, List.append_nil, List.append_assoc]
                      · rw [List.any_append, c2, List.any_cons, a0]
                        rfl
                    have hne3 : ∀ x ∈ dn, ∀ b, ftMd.blk x b → ¬ b = g := fun x hx b hb e => by have := (hbl x hx b hb).1; omega
                    have hokB : ∀ x ∈ dn, rdMd.ok w16 x := fun x hx => ftMd.fr (hok x hx) hfa (hne3 x hx)
                    have hby2 : ∀ b, ftMd.blk y0 b → v.ownBlock ≠ some b := fun b hb e => by have h9 : w15.heap.size ≤ b := hby b hb; have := (hown.lt b e).2; omega
                    have hoky2 := ftMd.fr (ftMd.fr hoy hfC (fun b hb e => hby2 b hb e)) hse (fun b hb e => by have h9 : w15.heap.size ≤ b := hby b hb; omega)
                    have hok4 : ∀ x ∈ dn ++ [y0], rdMd.ok w18 x := fun x hx => by
                      rcases List.mem_append.1 hx with hx | hx
                      · exact ftMd.fr (ftMd.fr (hokB x hx) hfC (fun b hb e => (hbl x hx b hb).2 e)) hse (fun b hb e => by have := (hbl x hx b hb).1; omega)
                      · obtain rfl := List.mem_singleton.1 hx
                        exact hoky2
                    have hbl4 : ∀ x ∈ dn ++ [y0], ∀ b, ftMd.blk x b → w14.heap.size ≤ b ∧ (Value.slice (some ⟨gg, 0, none⟩) (k + 1) cap).ownBlock ≠ some b := fun x hx b hb => by
                      have hx2 : w14.heap.size ≤ b ∧ v.ownBlock ≠ some b ∧ b < w16.heap.size := by
                        rcases List.mem_append.1 hx with hx | hx
                        · exact ⟨(hbl x hx b hb).1, (hbl x hx b hb).2, ftMd.lt (hokB x hx) hb⟩
                        · obtain rfl := List.mem_singleton.1 hx
                          have h9 : w15.heap.size ≤ b := hby b hb
                          exact ⟨by omega, hby2 b hb, ftMd.lt hoy hb⟩
                      refine ⟨hx2.1, fun e => ?_⟩
                      have e2 : gg = b := Option.some.inj e
                      subst e2
                      rcases hatC with h | h
                      · exact hx2.2.1 h
                      · omega
                    clear hownC hatC hownB
                    go_wp2_with fail
                    exact ⟨⟨_, k + 1, dn ++ [y0], s3x0, by omega, by go_num, by simp [hdl], by rw [List.flatMap_append]; simpa [rdMd, Md.f, Hd.v] using howne, hok4, hbl4, hre, bpe, hfe, HM, HC4⟩, by simp [intOf]; omega⟩
                  · have hd : decide (k < N3 ∧ s3.e = 0) = false := decide_eq_false hlt
                    rw [hd]
                    clear hd d2
                    have HFIN : Hid (z3 = s3) := by
                      unfold Hid
                      rw [K3.out, HG.out]
                      by_cases hkn : k < N3
                      · exact kRep_err (fun h => hlt ⟨hkn, h⟩)
                      · rw [show N3 - k = 0 by omega]
                        rfl
                    have v3 : Hid (s3.e = 0 → s2.l = lst encMd dn ++ s3.l ∧ badL badMd dn = false) := fun he => by
                      obtain ⟨c0, c1, c2⟩ := HC.out he
                      have hkn : k = N3 := by
                        by_cases hkn : k < N3
                        · exact absurd ⟨hkn, he⟩ hlt
                        · omega
                      refine ⟨?_, ?_⟩
                      · rw [V3.out c0, c1, ← hkn, ← hdl]
                        unfold lst
                        rw [List.append_assoc]
                      · unfold badL
                        rw [c2, hdl]
                        simp
                        omega
                    rw [HFIN.out] at HS u3
                    obtain ⟨A9, c9, hv9, hs9, hb9⟩ := SlG.of_own hown (fun x _ => rdMd.len x) hdl
                    rw [hv9] at bp
                    obtain ⟨n3, hn3⟩ : ∃ h : Hd Md, h = ⟨A9, c9, dn⟩ := ⟨_, rfl⟩
                    have eA : A9 = n3.A := by rw [hn3]
                    have ec : c9 = n3.c := by rw [hn3]
                    have el : dn = n3.l := by rw [hn3]
                    have o3 : n3.ok rdMd w15 := by rw [hn3]; exact ⟨by rw [← hdl] at hs9; exact hs9, hok⟩
                    have q3 : ∀ b, blkH ftMd n3 b → gp < b ∧ g < b := fun b hb => by
                      rw [hn3] at hb
                      have h9 : w14.heap.size ≤ b := by
                        rcases hb with ⟨_, o, e⟩ | ⟨x, hx, hb⟩
                        · exact hb9 b o e
                        · exact (hbl x hx b hb).1
                      exact ⟨by omega, by omega⟩
                    rw [el] at v3 hdl
                    rw [eA, ec, ← hdl] at bp
                    clear hdl hn3 eA ec el hs9 hb9 hv9 hok hbl hown HG HC V3 K3 HFIN hlt
                    have hrw15 := hr
                    have bpw15 := bp
                    clear hr bp
                    have brw15 := brw14.fr hfw (fun h => h.elim hrg hrp)
                    have Fw15 := Fw14.trans hfw
                    replace o1 := okH_fr ftPt o1 hfw (fun b hb e => by have := q1 b hb; omega)
                    replace o2 := okH_fr ftCh o2 hfw (fun b hb e => by have := q2 b hb; omega)
                    clear brw14 Fw14
                    clear hfw hrw14 bpw14 lpsw14 hsz hgw
                    go_wp2_with fail
                    refine (rr_Pw hrw15).mono ?_
                    rintro e w19 ⟨n4, rfl, o4, q4, hrw19, hf, v4⟩
                    have u4 := Lib.hid (kPw_stick (s := s3))
                    generalize kPw s3 = s4 at hrw19 HS v4 u4
                    unfold Pw.v
                    try unfold Hd.v
                    have bpw19 := bpw15.fr hf hpg
                    have lp := bpw19.lt
                    have fz : ∀ i, w19.frozen? ⟨gp, i, none⟩ = false := bpw19.frozen
                    have pc0 : w19.cell? ⟨gp, 3, none⟩ = some (.slice none 0 0) := bpw19.cell 3
                    have pc1 : w19.cell? ⟨gp, 4, none⟩ = some (.slice none 0 0) := bpw19.cell 4
                    have pc2 : w19.cell? ⟨gp, 5, none⟩ = some (.int .i64 0) := bpw19.cell 5
                    have pc3 : w19.cell? ⟨gp, 6, none⟩ = some (.int .i64 0) := bpw19.cell 6
                    have pc4 : w19.cell? ⟨gp, 7, none⟩ = some (.int .i64 0) := bpw19.cell 7
                    have pc5 : w19.cell? ⟨gp, 8, none⟩ = some (.int .i64 0) := bpw19.cell 8
                    have pc6 : w19.cell? ⟨gp, 9, none⟩ = some (.int .i64 0) := bpw19.cell 9
                    have pc7 : w19.cell? ⟨gp, 10, none⟩ = some (.int .i64 0) := bpw19.cell 10
                    go_wp2_with fail
                    have bpw20 : Blk ((((((((w19.setCell ⟨gp, 3, none⟩ (.slice n4.levels.A n4.levels.l.length n4.levels.c)).setCell ⟨gp, 4, none⟩ (.slice n4.naps.A n4.naps.l.length n4.naps.c)).setCell ⟨gp, 5, none⟩ (.int .i64 n4.sw)).setCell ⟨gp, 6, none⟩ (.int .i64 n4.idle)).setCell ⟨gp, 7, none⟩ (.int .i64 n4.change)).setCell ⟨gp, 8, none⟩ (.int .i64 n4.quant)).setCell ⟨gp, 9, none⟩ (.int .i64 n4.slow)).setCell ⟨gp, 10, none⟩ (.int .i64 n4.ppm)) gp 33 #[.slice n1.A n1.l.length n1.c, .slice n2.A n2.l.length n2.c, .slice n3.A n3.l.length n3.c, .slice n4.levels.A n4.levels.l.length n4.levels.c, .slice n4.naps.A n4.naps.l.length n4.naps.c, .int .i64 n4.sw, .int .i64 n4.idle, .int .i64 n4.change, .int .i64 n4.quant, .int .i64 n4.slow, .int .i64 n4.ppm, .slice none 0 0, .slice none 0 0] := ((((((((bpw19.set_ 3 (.slice n4.levels.A n4.levels.l.length n4.levels.c)).set_ 4 (.slice n4.naps.A n4.naps.l.length n4.naps.c)).set_ 5 (.int .i64 n4.sw)).set_ 6 (.int .i64 n4.idle)).set_ 7 (.int .i64 n4.change)).set_ 8 (.int .i64 n4.quant)).set_ 9 (.int .i64 n4.slow)).set_ 10 (.int .i64 n4.ppm))
                    have hs : Fr (fun q => q = gp) w19 ((((((((w19.setCell ⟨gp, 3, none⟩ (.slice n4.levels.A n4.levels.l.length n4.levels.c)).setCell ⟨gp, 4, none⟩ (.slice n4.naps.A n4.naps.l.length n4.naps.c)).setCell ⟨gp, 5, none⟩ (.int .i64 n4.sw)).setCell ⟨gp, 6, none⟩ (.int .i64 n4.idle)).setCell ⟨gp, 7, none⟩ (.int .i64 n4.change)).setCell ⟨gp, 8, none⟩ (.int .i64 n4.quant)).setCell ⟨gp, 9, none⟩ (.int .i64 n4.slow)).setCell ⟨gp, 10, none⟩ (.int .i64 n4.ppm)) := (((((((((Fr.refl (fun q => q = gp) w19).setCell (p := ⟨gp, 3, none⟩) (fun _ => rfl) _).setCell (p := ⟨gp, 4, none⟩) (fun _ => rfl) _).setCell (p := ⟨gp, 5, none⟩) (fun _ => rfl) _).setCell (p := ⟨gp, 6, none⟩) (fun _ => rfl) _).setCell (p := ⟨gp, 7, none⟩) (fun _ => rfl) _).setCell (p := ⟨gp, 8, none⟩) (fun _ => rfl) _).setCell (p := ⟨gp, 9, none⟩) (fun _ => rfl) _).setCell (p := ⟨gp, 10, none⟩) (fun _ => rfl) _)
                    have hrw20 := hrw19.fr hs (fun q e => by omega)
                    generalize (((((((w19.setCell ⟨gp, 3, none⟩ (.slice n4.levels.A n4.levels.l.length n4.levels.c)).setCell ⟨gp, 4, none⟩ (.slice n4.naps.A n4.naps.l.length n4.naps.c)).setCell ⟨gp, 5, none⟩ (.int .i64 n4.sw)).setCell ⟨gp, 6, none⟩ (.int .i64 n4.idle)).setCell ⟨gp, 7, none⟩ (.int .i64 n4.change)).setCell ⟨gp, 8, none⟩ (.int .i64 n4.quant)).setCell ⟨gp, 9, none⟩ (.int .i64 n4.slow)).setCell ⟨gp, 10, none⟩ (.int .i64 n4.ppm) = w20 at bpw20 hs hrw20 ⊢
                    have hc : Fr (fun q => q = g ∨ q = gp) w15 w20 := (hf.mono (fun q _ e => .inl e)).trans (hs.mono (fun q _ e => .inr e))
                    have brw20 := brw15.fr hc (fun h => h.elim hrg hrp)
                    have Fw20 := Fw15.trans hc
                    replace o1 := okH_fr ftPt o1 hc (fun b hb e => by have := q1 b hb; omega)
                    replace o2 := okH_fr ftCh o2 hc (fun b hb e => by have := q2 b hb; omega)
                    replace o3 := okH_fr ftMd o3 hc (fun b hb e => by have := q3 b hb; omega)
                    clear brw15 Fw15
                    replace o4 := ftPw.fr o4 hs (fun b hb e => by have := q4 b hb; have := bpw15.lt; omega)
                    replace q4 : ∀ b, ftPw.blk n4 b → gp < b ∧ g < b := fun b hb => by have := q4 b hb; have := bpw15.lt; exact ⟨by omega, by omega⟩
                    clear hrw15 hrw19 bpw15 bpw19 hf hs hc lp fz pc0 pc1 pc2 pc3 pc4 pc5 pc6 pc7
                    refine (rrInts_any hrw20).mono ?_
                    rintro e w21 ⟨n5, rfl, o5, q5, hrw21, hf, v5⟩
                    have u5 := Lib.hid (kL_stick (f := kI) (s := s4))
                    generalize kL kI s4 = s5 at hrw21 HS v5 u5
                    unfold Hd.v
                    have bpw21 := bpw20.fr hf hpg
                    have lp := bpw21.lt
                    have fz : ∀ i, w21.frozen? ⟨gp, i, none⟩ = false := bpw21.frozen
                    have pc0 : w21.cell? ⟨gp, 11, none⟩ = some (.slice none 0 0) := bpw21.cell 11
                    go_wp2_with fail
                    have bpw22 : Blk (w21.setCell ⟨gp, 11, none⟩ (.slice n5.A n5.l.length n5.c)) gp 33 #[.slice n1.A n1.l.length n1.c, .slice n2.A n2.l.length n2.c, .slice n3.A n3.l.length n3.c, .slice n4.levels.A n4.levels.l.length n4.levels.c, .slice n4.naps.A n4.naps.l.length n4.naps.c, .int .i64 n4.sw, .int .i64 n4.idle, .int .i64 n4.change, .int .i64 n4.quant, .int .i64 n4.slow, .int .i64 n4.ppm, .slice n5.A n5.l.length n5.c, .slice none 0 0] := (bpw21.set_ 11 (.slice n5.A n5.l.length n5.c))
                    have hs : Fr (fun q => q = gp) w21 (w21.setCell ⟨gp, 11, none⟩ (.slice n5.A n5.l.length n5.c)) := ((Fr.refl (fun q => q = gp) w21).setCell (p := ⟨gp, 11, none⟩) (fun _ => rfl) _)
                    have hrw22 := hrw21.fr hs (fun q e => by omega)
                    generalize w21.setCell ⟨gp, 11, none⟩ (.slice n5.A n5.l.length n5.c) = w22 at bpw22 hs hrw22 ⊢
                    have hc : Fr (fun q => q = g ∨ q = gp) w20 w22 := (hf.mono (fun q _ e => .inl e)).trans (hs.mono (fun q _ e => .inr e))
                    have brw22 := brw20.fr hc (fun h => h.elim hrg hrp)
                    have Fw22 := Fw20.trans hc
                    replace o1 := okH_fr ftPt o1 hc (fun b hb e => by have := q1 b hb; omega)
                    replace o2 := okH_fr ftCh o2 hc (fun b hb e => by have := q2 b hb; omega)
                    replace o3 := okH_fr ftMd o3 hc (fun b hb e => by have := q3 b hb; omega)
                    replace o4 := ftPw.fr o4 hc (fun b hb e => by have := q4 b hb; omega)
                    clear brw20 Fw20
                    replace o5 := ftInts.fr o5 hs (fun b hb e => by have := q5 b hb; have := bpw20.lt; omega)
                    replace q5 : ∀ b, ftInts.blk n5 b → gp < b ∧ g < b := fun b hb => by have := q5 b hb; have := bpw20.lt; exact ⟨by omega, by omega⟩
                    clear hrw20 hrw21 bpw20 bpw21 hf hs hc lp fz pc0
                    refine (rrInts_any hrw22).mono ?_
                    rintro e w23 ⟨n6, rfl, o6, q6, hrw23, hf, v6⟩
                    have u6 := Lib.hid (kL_stick (f := kI) (s := s5))
                    generalize kL kI s5 = s6 at hrw23 HS v6 u6
                    unfold Hd.v
                    have bpw23 := bpw22.fr hf hpg
                    have lp := bpw23.lt
                    have fz : ∀ i, w23.frozen? ⟨gp, i, none⟩ = false := bpw23.frozen
                    have pc0 : w23.cell? ⟨gp, 12, none⟩ = some (.slice none 0 0) := bpw23.cell 12
                    go_upto_region 26 with fail
                    have bpw24 : Blk (w23.setCell ⟨gp, 12, none⟩ (.slice n6.A n6.l.length n6.c)) gp 33 #[.slice n1.A n1.l.length n1.c, .slice n2.A n2.l.length n2.c, .slice n3.A n3.l.length n3.c, .slice n4.levels.A n4.levels.l.length n4.levels.c, .slice n4.naps.A n4.naps.l.length n4.naps.c, .int .i64 n4.sw, .int .i64 n4.idle, .int .i64 n4.change, .int .i64 n4.quant, .int .i64 n4.slow, .int .i64 n4.ppm, .slice n5.A n5.l.length n5.c, .slice n6.A n6.l.length n6.c] := (bpw23.set_ 12 (.slice n6.A n6.l.length n6.c))
                    have hs : Fr (fun q => q = gp) w23 (w23.setCell ⟨gp, 12, none⟩ (.slice n6.A n6.l.length n6.c)) := ((Fr.refl (fun q => q = gp) w23).setCell (p := ⟨gp, 12, none⟩) (fun _ => rfl) _)
                    have hrw24 := hrw23.fr hs (fun q e => by omega)
                    generalize w23.setCell ⟨gp, 12, none⟩ (.slice n6.A n6.l.length n6.c) = w24 at bpw24 hs hrw24 ⊢
                    have hc : Fr (fun q => q = g ∨ q = gp) w22 w24 := (hf.mono (fun q _ e => .inl e)).trans (hs.mono (fun q _ e => .inr e))
                    have brw24 := brw22.fr hc (fun h => h.elim hrg hrp)
                    have Fw24 := Fw22.trans hc
                    replace o1 := okH_fr ftPt o1 hc (fun b hb e => by have := q1 b hb; omega)
                    replace o2 := okH_fr ftCh o2 hc (fun b hb e => by have := q2 b hb; omega)
                    replace o3 := okH_fr ftMd o3 hc (fun b hb e => by have := q3 b hb; omega)
                    replace o4 := ftPw.fr o4 hc (fun b hb e => by have := q4 b hb; omega)
                    replace o5 := ftInts.fr o5 hc (fun b hb e => by have := q5 b hb; omega)
                    clear brw22 Fw22
                    replace o6 := ftInts.fr o6 hs (fun b hb e => by have := q6 b hb; have := bpw22.lt; omega)
                    replace q6 : ∀ b, ftInts.blk n6 b → gp < b ∧ g < b := fun b hb => by have := q6 b hb; have := bpw22.lt; exact ⟨by omega, by omega⟩
                    clear hrw22 hrw23 bpw22 bpw23 hf hs hc lp fz pc0
                    have HZ : Hid (decE l = endS s6) := by unfold Hid decE; rw [← HSL.out, HS.out]
                    have HE := Lib.hid (endS_zero (s := s6))
                    have B7 : Below w.heap.size w w24 := hBr.trans (Fw24.below (fun q hq e => by rcases e with e | e <;> omega) hBr.size)
                    have lr := brw24.lt
                    have lp := bpw24.lt
                    have fz : ∀ i, w24.frozen? ⟨gr, i, none⟩ = false := brw24.frozen
                    obtain ⟨ra, rb, rc, at_, rd, re⟩ := hrw24
                    have g1 : w24.cell? ⟨g, 1, none⟩ = some (.int .i64 (at_ : Int)) := rd.cell 1
                    have g2 : w24.cell? ⟨g, 2, none⟩ = some (.int .i64 s6.e) := rd.cell 2
                    have fzg : ∀ i, w24.frozen? ⟨g, i, none⟩ = false := rd.frozen
                    have lg := rd.lt
                    have z0 : w24.cell? ⟨gr, 0, none⟩ = some (.slice none 0 0) := brw24.cell 0
                    have z1 : w24.cell? ⟨gr, 1, none⟩ = some (.slice none 0 0) := brw24.cell 1
                    have z2 : w24.cell? ⟨gr, 2, none⟩ = some (.slice none 0 0) := brw24.cell 2
                    have z3 : w24.cell? ⟨gr, 3, none⟩ = some (.slice none 0 0) := brw24.cell 3
                    have z4 : w24.cell? ⟨gr, 4, none⟩ = some (.slice none 0 0) := brw24.cell 4
                    have z5 : w24.cell? ⟨gr, 5, none⟩ = some (.int .i64 0) := brw24.cell 5
                    have z6 : w24.cell? ⟨gr, 6, none⟩ = some (.int .i64 0) := brw24.cell 6
                    have z7 : w24.cell? ⟨gr, 7, none⟩ = some (.int .i64 0) := brw24.cell 7
                    have z8 : w24.cell? ⟨gr, 8, none⟩ = some (.int .i64 0) := brw24.cell 8
                    have z9 : w24.cell? ⟨gr, 9, none⟩ = some (.int .i64 0) := brw24.cell 9
                    have z10 : w24.cell? ⟨gr, 10, none⟩ = some (.int .i64 0) := brw24.cell 10
                    have z11 : w24.cell? ⟨gr, 11, none⟩ = some (.slice none 0 0) := brw24.cell 11
                    have z12 : w24.cell? ⟨gr, 12, none⟩ = some (.slice none 0 0) := brw24.cell 12
                    by_cases he : s6.e = 0
                    · obtain ⟨ha, hd⟩ := re he
                      have he1 : (s6.e == 0) = true := by simpa using he
                      have he2 : (s6.e != 0) = false := by simpa using he
                      have hln := ra.2
                      by_cases hlt : at_ < n
                      · have HN : Hid (11 = decE l) := by
                          unfold Hid
                          rw [HZ.out]
                          unfold endS
                          rw [if_pos ⟨he, by rw [hd]; intro h9; have := congrArg List.length h9; rw [List.length_drop] at this; simp at this; omega⟩]
                        clear he
                        have bgx := rd.set_ 2 (.int .i64 11)
                        have fx : Fr (fun q => q = g) w24 (w24.setCell ⟨g, 2, none⟩ (.int .i64 11)) := (Fr.refl (fun q => q = g) w24).setCell (p := ⟨g, 2, none⟩) (fun _ => rfl) _
                        have brx := brw24.fr fx hrg
                        have Bx := B7.trans (fx.below (fun q hq e => by omega) B7.size)
                        go_upto_region 28 with fail
                        generalize w24.setCell ⟨g, 2, none⟩ (.int .i64 11) = wx at bgx fx brx Bx ⊢
                        clear g1 g2 fzg z0 z1 z2 z3 z4 z5 z6 z7 z8 z9 z10 z11 z12 fz
                        have g2 : wx.cell? ⟨g, 2, none⟩ = some (.int .i64 11) := bgx.cell 2
                        have lgx := bgx.lt
                        have fz : ∀ i, wx.frozen? ⟨gr, i, none⟩ = false := brx.frozen
                        have z0 : wx.cell? ⟨gr, 0, none⟩ = some (.slice none 0 0) := brx.cell 0
                        have z1 : wx.cell? ⟨gr, 1, none⟩ = some (.slice none 0 0) := brx.cell 1
                        have z2 : wx.cell? ⟨gr, 2, none⟩ = some (.slice none 0 0) := brx.cell 2
                        have z3 : wx.cell? ⟨gr, 3, none⟩ = some (.slice none 0 0) := brx.cell 3
                        have z4 : wx.cell? ⟨gr, 4, none⟩ = some (.slice none 0 0) := brx.cell 4
                        have z5 : wx.cell? ⟨gr, 5, none⟩ = some (.int .i64 0) := brx.cell 5
                        have z6 : wx.cell? ⟨gr, 6, none⟩ = some (.int .i64 0) := brx.cell 6
                        have z7 : wx.cell? ⟨gr, 7, none⟩ = some (.int .i64 0) := brx.cell 7
                        have z8 : wx.cell? ⟨gr, 8, none⟩ = some (.int .i64 0) := brx.cell 8
                        have z9 : wx.cell? ⟨gr, 9, none⟩ = some (.int .i64 0) := brx.cell 9
                        have z10 : wx.cell? ⟨gr, 10, none⟩ = some (.int .i64 0) := brx.cell 10
                        have z11 : wx.cell? ⟨gr, 11, none⟩ = some (.slice none 0 0) := brx.cell 11
                        have z12 : wx.cell? ⟨gr, 12, none⟩ = some (.slice none 0 0) := brx.cell 12
                        go_wp2_with fail
                        have hgr2 : ¬ g = gr := fun h => hrg h.symm
                        refine wp_region_fen (fun j => j = gr) [(5, 0)] (by kernel_rfl) (by kernel_rfl) ?_
                        simp only [wpSegsF, List.take, List.drop]
                        repeat (go_big_quiet_step (fail))
                        refine wpQuiet_nil (wpHeadF_want rfl (fun K' hK' => ?_))
                        refine wp_store_mid 33 _ _ (by rfl) gr 0 #[.slice none 0 0, .slice none 0 0, .slice none 0 0, .slice none 0 0, .slice none 0 0, .int .i64 0, .int .i64 0, .int .i64 0, .int .i64 0, .int .i64 0, .int .i64 0, .slice none 0 0, .slice none 0 0] (by rfl) (by rfl) (Blk.there (brx.drew) (by decide)) (by kernel_rfl) (by simp [Value.oneCell']) ?_
                        rw [setCells_eq]
                        have rK : Blk (setRow wx.drew gr 0 [.slice none 0 0, .slice none 0 0, .slice none 0 0, .slice none 0 0, .slice none 0 0, .int .i64 0, .int .i64 0, .int .i64 0, .int .i64 0, .int .i64 0, .int .i64 0, .slice none 0 0, .slice none 0 0]) gr 33 _ := Blk.row (brx.drew) rfl
                        have rF : Fr (fun q => q = gr) wx.drew (setRow wx.drew gr 0 [.slice none 0 0, .slice none 0 0, .slice none 0 0, .slice none 0 0, .slice none 0 0, .int .i64 0, .int .i64 0, .int .i64 0, .int .i64 0, .int .i64 0, .int .i64 0, .slice none 0 0, .slice none 0 0]) := Fr.row _ 0 (Fr.refl _ _) (fun _ => rfl)
                        have B9 : Below w.heap.size w (setRow wx.drew gr 0 [.slice none 0 0, .slice none 0 0, .slice none 0 0, .slice none 0 0, .slice none 0 0, .int .i64 0, .int .i64 0, .int .i64 0, .int .i64 0, .int .i64 0, .int .i64 0, .slice none 0 0, .slice none 0 0]) := Bx.drew.trans (rF.below (fun q hq e => by omega) Bx.drew.size)
                        have rF2 : Fr (fun q => q = gr) wx (setRow wx.drew gr 0 [.slice none 0 0, .slice none 0 0, .slice none 0 0, .slice none 0 0, .slice none 0 0, .int .i64 0, .int .i64 0, .int .i64 0, .int .i64 0, .int .i64 0, .int .i64 0, .slice none 0 0, .slice none 0 0]) := (Fr.drew (Fr.refl _ wx)).trans rF
                        have rfl9 : setRow wx.drew gr 0 (#[.slice none 0 0, .slice none 0 0, .slice none 0 0, .slice none 0 0, .slice none 0 0, .int .i64 0, .int .i64 0, .int .i64 0, .int .i64 0, .int .i64 0, .int .i64 0, .slice none 0 0, .slice none 0 0] : Array Value).toList = setRow wx.drew gr 0 [.slice none 0 0, .slice none 0 0, .slice none 0 0, .slice none 0 0, .slice none 0 0, .int .i64 0, .int .i64 0, .int .i64 0, .int .i64 0, .int .i64 0, .int .i64 0, .slice none 0 0, .slice none 0 0] := rfl
                        rw [rfl9]
                        clear rfl9
                        generalize setRow wx.drew gr 0 [.slice none 0 0, .slice none 0 0, .slice none 0 0, .slice none 0 0, .slice none 0 0, .int .i64 0, .int .i64 0, .int .i64 0, .int .i64 0, .int .i64 0, .int .i64 0, .slice none 0 0, .slice none 0 0] = w9 at rK rF B9 rF2 ⊢
                        have y0 : w9.cell? ⟨gr, 0, none⟩ = some (.slice none 0 0) := rK.cell 0
                        have y1 : w9.cell? ⟨gr, 1, none⟩ = some (.slice none 0 0) := rK.cell 1
                        have y2 : w9.cell? ⟨gr, 2, none⟩ = some (.slice none 0 0) := rK.cell 2
                        have y3 : w9.cell? ⟨gr, 3, none⟩ = some (.slice none 0 0) := rK.cell 3
                        have y4 : w9.cell? ⟨gr, 4, none⟩ = some (.slice none 0 0) := rK.cell 4
                        have y5 : w9.cell? ⟨gr, 5, none⟩ = some (.int .i64 0) := rK.cell 5
                        have y6 : w9.cell? ⟨gr, 6, none⟩ = some (.int .i64 0) := rK.cell 6
                        have y7 : w9.cell? ⟨gr, 7, none⟩ = some (.int .i64 0) := rK.cell 7
                        have y8 : w9.cell? ⟨gr, 8, none⟩ = some (.int .i64 0) := rK.cell 8
                        have y9 : w9.cell? ⟨gr, 9, none⟩ = some (.int .i64 0) := rK.cell 9
                        have y10 : w9.cell? ⟨gr, 10, none⟩ = some (.int .i64 0) := rK.cell 10
                        have y11 : w9.cell? ⟨gr, 11, none⟩ = some (.slice none 0 0) := rK.cell 11
                        have y12 : w9.cell? ⟨gr, 12, none⟩ = some (.slice none 0 0) := rK.cell 12
                        refine hK' _ _ rfl (fr_graft rF2) ?_
                        clear hK' K'
                        try simp only
                        simp only [Act.put]
                        repeat (go_big_quiet_step (fail))
                        refine wpQuiet_nil ?_
                        go_wp2_with fail
                        try simp only [Exit.inBlock, Exit.then]
                        refine bodyPost_ret (v := .tuple #[.agg #[.slice none 0 0, .slice none 0 0, .slice none 0 0, .slice none 0 0, .slice none 0 0, .int .i64 0, .int .i64 0, .int .i64 0, .int .i64 0, .int .i64 0, .int .i64 0, .slice none 0 0, .slice none 0 0], .int .i64 11]) (by simp [results, Tryz.results12, go_sem, y0, y1, y2, y3, y4, y5, y6, y7, y8, y9, y10, y11, y12]) rfl ?_
                        exact ⟨Cf0, 11, rfl, cf0_ok _, B9, HN.out, fun h => absurd h (by decide), fun _ => rfl⟩
                      · have HX : Hid (encCf ⟨n1, n2, n3, n4, ⟨n5, n6⟩⟩ = l ∧ badCf ⟨n1, n2, n3, n4, ⟨n5, n6⟩⟩ = false) := by
                          have hl9 : s6.l = [] := by rw [hd]; exact List.drop_eq_nil_of_le (by omega)
                          obtain ⟨l6, d6⟩ := v6.out he
                          have e6 := u6.out he
                          obtain ⟨l5, d5⟩ := v5.out e6
                          have e5 := u5.out e6
                          obtain ⟨l4, d4⟩ := v4.out e5
                          have e4 := u4.out e5
                          obtain ⟨l3, d3⟩ := v3.out e4
                          have e3 := u3.out e4
                          obtain ⟨l2, d2⟩ := v2.out e3
                          have e2 := u2.out e3
                          obtain ⟨l1, d1⟩ := v1.out e2
                          have e1 := u1.out e2
                          refine ⟨?_, by unfold badCf; simp [d1, d2, d3, d4, d5, d6]⟩
                          have e0 : s.l = l := by rw [HSL.out]
                          rw [← e0, l1, l2, l3, l4, l5, l6, hl9]
                          unfold encCf
                          simp only [List.append_assoc, List.append_nil]
                        have HN : Hid (0 = decE l) := by
                          unfold Hid
                          rw [HZ.out]
                          unfold endS
                          rw [if_neg (fun h => h.2 (by rw [hd]; exact List.drop_eq_nil_of_le (by omega))), he]
                        have hlt2 : ¬ (at_ : Int) < (n : Int) := by omega
                        clear he HE
                        have pc0 : w24.cell? ⟨gp, 0, none⟩ = some (.slice n1.A n1.l.length n1.c) := bpw24.cell 0
                        have pc1 : w24.cell? ⟨gp, 1, none⟩ = some (.slice n2.A n2.l.length n2.c) := bpw24.cell 1
                        have pc2 : w24.cell? ⟨gp, 2, none⟩ = some (.slice n3.A n3.l.length n3.c) := bpw24.cell 2
                        have pc3 : w24.cell? ⟨gp, 3, none⟩ = some (.slice n4.levels.A n4.levels.l.length n4.levels.c) := bpw24.cell 3
                        have pc4 : w24.cell? ⟨gp, 4, none⟩ = some (.slice n4.naps.A n4.naps.l.length n4.naps.c) := bpw24.cell 4
                        have pc5 : w24.cell? ⟨gp, 5, none⟩ = some (.int .i64 n4.sw) := bpw24.cell 5
                        have pc6 : w24.cell? ⟨gp, 6, none⟩ = some (.int .i64 n4.idle) := bpw24.cell 6
                        have pc7 : w24.cell? ⟨gp, 7, none⟩ = some (.int .i64 n4.change) := bpw24.cell 7
                        have pc8 : w24.cell? ⟨gp, 8, none⟩ = some (.int .i64 n4.quant) := bpw24.cell 8
                        have pc9 : w24.cell? ⟨gp, 9, none⟩ = some (.int .i64 n4.slow) := bpw24.cell 9
                        have pc10 : w24.cell? ⟨gp, 10, none⟩ = some (.int .i64 n4.ppm) := bpw24.cell 10
                        have pc11 : w24.cell? ⟨gp, 11, none⟩ = some (.slice n5.A n5.l.length n5.c) := bpw24.cell 11
                        have pc12 : w24.cell? ⟨gp, 12, none⟩ = some (.slice n6.A n6.l.length n6.c) := bpw24.cell 12
                        go_wp2_with fail
                        have rK : Blk (setRow w24 gr 0 [.slice n1.A n1.l.length n1.c, .slice n2.A n2.l.length n2.c, .slice n3.A n3.l.length n3.c, .slice n4.levels.A n4.levels.l.length n4.levels.c, .slice n4.naps.A n4.naps.l.length n4.naps.c, .int .i64 n4.sw, .int .i64 n4.idle, .int .i64 n4.change, .int .i64 n4.quant, .int .i64 n4.slow, .int .i64 n4.ppm, .slice n5.A n5.l.length n5.c, .slice n6.A n6.l.length n6.c]) gr 33 _ := Blk.row brw24 rfl
                        have rF : Fr (fun q => q = gr) w24 (setRow w24 gr 0 [.slice n1.A n1.l.length n1.c, .slice n2.A n2.l.length n2.c, .slice n3.A n3.l.length n3.c, .slice n4.levels.A n4.levels.l.length n4.levels.c, .slice n4.naps.A n4.naps.l.length n4.naps.c, .int .i64 n4.sw, .int .i64 n4.idle, .int .i64 n4.change, .int .i64 n4.quant, .int .i64 n4.slow, .int .i64 n4.ppm, .slice n5.A n5.l.length n5.c, .slice n6.A n6.l.length n6.c]) := Fr.row _ 0 (Fr.refl _ _) (fun _ => rfl)
                        simp only [setRow, Nat.zero_add, Nat.reduceAdd] at rK rF
                        generalize ((((((((((((w24.setCell ⟨gr, 0, none⟩ (.slice n1.A n1.l.length n1.c)).setCell ⟨gr, 1, none⟩ (.slice n2.A n2.l.length n2.c)).setCell ⟨gr, 2, none⟩ (.slice n3.A n3.l.length n3.c)).setCell ⟨gr, 3, none⟩ (.slice n4.levels.A n4.levels.l.length n4.levels.c)).setCell ⟨gr, 4, none⟩ (.slice n4.naps.A n4.naps.l.length n4.naps.c)).setCell ⟨gr, 5, none⟩ (.int .i64 n4.sw)).setCell ⟨gr, 6, none⟩ (.int .i64 n4.idle)).setCell ⟨gr, 7, none⟩ (.int .i64 n4.change)).setCell ⟨gr, 8, none⟩ (.int .i64 n4.quant)).setCell ⟨gr, 9, none⟩ (.int .i64 n4.slow)).setCell ⟨gr, 10, none⟩ (.int .i64 n4.ppm)).setCell ⟨gr, 11, none⟩ (.slice n5.A n5.l.length n5.c)).setCell ⟨gr, 12, none⟩ (.slice n6.A n6.l.length n6.c) = w9 at rK rF ⊢
                        have y0 : w9.cell? ⟨gr, 0, none⟩ = some (.slice n1.A n1.l.length n1.c) := rK.cell 0
                        have y1 : w9.cell? ⟨gr, 1, none⟩ = some (.slice n2.A n2.l.length n2.c) := rK.cell 1
                        have y2 : w9.cell? ⟨gr, 2, none⟩ = some (.slice n3.A n3.l.length n3.c) := rK.cell 2
                        have y3 : w9.cell? ⟨gr, 3, none⟩ = some (.slice n4.levels.A n4.levels.l.length n4.levels.c) := rK.cell 3
                        have y4 : w9.cell? ⟨gr, 4, none⟩ = some (.slice n4.naps.A n4.naps.l.length n4.naps.c) := rK.cell 4
                        have y5 : w9.cell? ⟨gr, 5, none⟩ = some (.int .i64 n4.sw) := rK.cell 5
                        have y6 : w9.cell? ⟨gr, 6, none⟩ = some (.int .i64 n4.idle) := rK.cell 6
                        have y7 : w9.cell? ⟨gr, 7, none⟩ = some (.int .i64 n4.change) := rK.cell 7
                        have y8 : w9.cell? ⟨gr, 8, none⟩ = some (.int .i64 n4.quant) := rK.cell 8
                        have y9 : w9.cell? ⟨gr, 9, none⟩ = some (.int .i64 n4.slow) := rK.cell 9
                        have y10 : w9.cell? ⟨gr, 10, none⟩ = some (.int .i64 n4.ppm) := rK.cell 10
                        have y11 : w9.cell? ⟨gr, 11, none⟩ = some (.slice n5.A n5.l.length n5.c) := rK.cell 11
                        have y12 : w9.cell? ⟨gr, 12, none⟩ = some (.slice n6.A n6.l.length n6.c) := rK.cell 12
                        have B9 : Below w.heap.size w w9 := B7.trans (rF.below (fun q hq e => by omega) B7.size)
                        replace o1 := okH_fr ftPt o1 rF (fun b hb e => by have := q1 b hb; omega)
                        replace o2 := okH_fr ftCh o2 rF (fun b hb e => by have := q2 b hb; omega)
                        replace o3 := okH_fr ftMd o3 rF (fun b hb e => by have := q3 b hb; omega)
                        replace o4 := ftPw.fr o4 rF (fun b hb e => by have := q4 b hb; omega)
                        replace o5 := ftInts.fr o5 rF (fun b hb e => by have := q5 b hb; omega)
                        replace o6 := ftInts.fr o6 rF (fun b hb e => by have := q6 b hb; omega)
                        try simp only [Exit.inBlock, Exit.then]
                        refine bodyPost_ret (v := .tuple #[.agg #[.slice n1.A n1.l.length n1.c, .slice n2.A n2.l.length n2.c, .slice n3.A n3.l.length n3.c, .slice n4.levels.A n4.levels.l.length n4.levels.c, .slice n4.naps.A n4.naps.l.length n4.naps.c, .int .i64 n4.sw, .int .i64 n4.idle, .int .i64 n4.change, .int .i64 n4.quant, .int .i64 n4.slow, .int .i64 n4.ppm, .slice n5.A n5.l.length n5.c, .slice n6.A n6.l.length n6.c], .int .i64 0]) (by simp [results, Tryz.results12, go_sem, y0, y1, y2, y3, y4, y5, y6, y7, y8, y9, y10, y11, y12]) rfl ?_
                        exact ⟨⟨n1, n2, n3, n4, ⟨n5, n6⟩⟩, 0, rfl, ⟨o1, o2, o3, o4, o5, o6⟩, B9, HN.out, fun _ => HX.out, fun h => absurd rfl h⟩
                    · have he1 : (s6.e == 0) = false := by simpa using he
                      have he2 : (s6.e != 0) = true := by simpa using he
                      have HN : Hid (s6.e = decE l) := by
                        unfold Hid
                        rw [HZ.out]
                        unfold endS
                        rw [if_neg (fun h => he h.1)]
                      have HNZ := Lib.hid he
                      clear he
                      go_wp2_with fail
                      have hgr2 : ¬ g = gr := fun h => hrg h.symm
                      refine wp_region_fen (fun j => j = gr) [(5, 0)] (by kernel_rfl) (by kernel_rfl) ?_
                      simp only [wpSegsF, List.take, List.drop]
                      repeat (go_big_quiet_step (fail))
                      refine wpQuiet_nil (wpHeadF_want rfl (fun K' hK' => ?_))
                      refine wp_store_mid 33 _ _ (by rfl) gr 0 #[.slice none 0 0, .slice none 0 0, .slice none 0 0, .slice none 0 0, .slice none 0 0, .int .i64 0, .int .i64 0, .int .i64 0, .int .i64 0, .int .i64 0, .int .i64 0, .slice none 0 0, .slice none 0 0] (by rfl) (by rfl) (Blk.there (brw24.drew) (by decide)) (by kernel_rfl) (by simp [Value.oneCell']) ?_
                      rw [setCells_eq]
                      have rK : Blk (setRow w24.drew gr 0 [.slice none 0 0, .slice none 0 0, .slice none 0 0, .slice none 0 0, .slice none 0 0, .int .i64 0, .int .i64 0, .int .i64 0, .int .i64 0, .int .i64 0, .int .i64 0, .slice none 0 0, .slice none 0 0]) gr 33 _ := Blk.row (brw24.drew) rfl
                      have rF : Fr (fun q => q = gr) w24.drew (setRow w24.drew gr 0 [.slice none 0 0, .slice none 0 0, .slice none 0 0, .slice none 0 0, .slice none 0 0, .int .i64 0, .int .i64 0, .int .i64 0, .int .i64 0, .int .i64 0, .int .i64 0, .slice none 0 0, .slice none 0 0]) := Fr.row _ 0 (Fr.refl _ _) (fun _ => rfl)
                      have B9 : Below w.heap.size w (setRow w24.drew gr 0 [.slice none 0 0, .slice none 0 0, .slice none 0 0, .slice none 0 0, .slice none 0 0, .int .i64 0, .int .i64 0, .int .i64 0, .int .i64 0, .int .i64 0, .int .i64 0, .slice none 0 0, .slice none 0 0]) := B7.drew.trans (rF.below (fun q hq e => by omega) B7.drew.size)
                      have rF2 : Fr (fun q => q = gr) w24 (setRow w24.drew gr 0 [.slice none 0 0, .slice none 0 0, .slice none 0 0, .slice none 0 0, .slice none 0 0, .int .i64 0, .int .i64 0, .int .i64 0, .int .i64 0, .int .i64 0, .int .i64 0, .slice none 0 0, .slice none 0 0]) := (Fr.drew (Fr.refl _ w24)).trans rF
                      have rfl9 : setRow w24.drew gr 0 (#[.slice none 0 0, .slice none 0 0, .slice none 0 0, .slice none 0 0, .slice none 0 0, .int .i64 0, .int .i64 0, .int .i64 0, .int .i64 0, .int .i64 0, .int .i64 0, .slice none 0 0, .slice none 0 0] : Array Value).toList = setRow w24.drew gr 0 [.slice none 0 0, .slice none 0 0, .slice none 0 0, .slice none 0 0, .slice none 0 0, .int .i64 0, .int .i64 0, .int .i64 0, .int .i64 0, .int .i64 0, .int .i64 0, .slice none 0 0, .slice none 0 0] := rfl
                      rw [rfl9]
                      clear rfl9
                      generalize setRow w24.drew gr 0 [.slice none 0 0, .slice none 0 0, .slice none 0 0, .slice none 0 0, .slice none 0 0, .int .i64 0, .int .i64 0, .int .i64 0, .int .i64 0, .int .i64 0, .int .i64 0, .slice none 0 0, .slice none 0 0] = w9 at rK rF B9 rF2 ⊢
                      have y0 : w9.cell? ⟨gr, 0, none⟩ = some (.slice none 0 0) := rK.cell 0
                      have y1 : w9.cell? ⟨gr, 1, none⟩ = some (.slice none 0 0) := rK.cell 1
                      have y2 : w9.cell? ⟨gr, 2, none⟩ = some (.slice none 0 0) := rK.cell 2
                      have y3 : w9.cell? ⟨gr, 3, none⟩ = some (.slice none 0 0) := rK.cell 3
                      have y4 : w9.cell? ⟨gr, 4, none⟩ = some (.slice none 0 0) := rK.cell 4
                      have y5 : w9.cell? ⟨gr, 5, none⟩ = some (.int .i64 0) := rK.cell 5
                      have y6 : w9.cell? ⟨gr, 6, none⟩ = some (.int .i64 0) := rK.cell 6
                      have y7 : w9.cell? ⟨gr, 7, none⟩ = some (.int .i64 0) := rK.cell 7
                      have y8 : w9.cell? ⟨gr, 8, none⟩ = some (.int .i64 0) := rK.cell 8
                      have y9 : w9.cell? ⟨gr, 9, none⟩ = some (.int .i64 0) := rK.cell 9
                      have y10 : w9.cell? ⟨gr, 10, none⟩ = some (.int .i64 0) := rK.cell 10
                      have y11 : w9.cell? ⟨gr, 11, none⟩ = some (.slice none 0 0) := rK.cell 11
                      have y12 : w9.cell? ⟨gr, 12, none⟩ = some (.slice none 0 0) := rK.cell 12
                      refine hK' _ _ rfl (fr_graft rF2) ?_
                      clear hK' K'
                      try simp only
                      simp only [Act.put]
                      repeat (go_big_quiet_step (fail))
                      refine wpQuiet_nil ?_
                      go_wp2_with fail
                      try simp only [Exit.inBlock, Exit.then]
                      refine bodyPost_ret (v := .tuple #[.agg #[.slice none 0 0, .slice none 0 0, .slice none 0 0, .slice none 0 0, .slice none 0 0, .int .i64 0, .int .i64 0, .int .i64 0, .int .i64 0, .int .i64 0, .int .i64 0, .slice none 0 0, .slice none 0 0], .int .i64 s6.e]) (by simp [results, Tryz.results12, go_sem, y0, y1, y2, y3, y4, y5, y6, y7, y8, y9, y10, y11, y12]) rfl ?_
                      exact ⟨Cf0, s6.e, rfl, cf0_ok _, B9, HN.out, fun h => absurd h HNZ.out, fun _ => rfl⟩
end Go.Proofs.YtahjnonkhbpnpaaGreat
