/- Words and walks for the claims of this seat, merged: RrPart. -/
import Derived.Deep.DeepCutAuto
import Derived.Deep.CutRange
import Derived.Test.YtahjnonkhbpnpaaGreatCm10
/- The document's reader of a configuration: part. Printed by wip/gen_rr.py. -/
namespace Go.Proofs.YtahjnonkhbpnpaaGreat
open Go.RowKit
set_option maxRecDepth 100000 in
set_option maxHeartbeats 12800000 in
theorem rr_Pt {w : World} {g n c : Nat} {A : Option Addr} {l : List UInt8} {s : RS} (h : RfSt w g A n c l s) : Calls Tryz.prog 42 #[.pointer (some ⟨g, 0, none⟩)] w fun e w' =>
    ∃ x : Pt, e = .returned x.v ∧ rdPt.ok w' x ∧ (∀ b, ftPt.blk x b → w.heap.size ≤ b) ∧ RfSt w' g A n c l (kPt s) ∧ Fr (fun q => q = g) w w' ∧ Hid ((kPt s).e = 0 → s.l = encPt x ++ (kPt s).l ∧ badPt x = false) := by
  have hgl := h.lt
  have hb0 := (Below.refl w.heap.size w).alloc (Nat.le_refl _) (.cells #[.slice none 0 0, .slice none 0 0, .slice none 0 0, .slice none 0 0, .int .i64 0, .slice none 0 0, .slice none 0 0, .int .i64 0, .int .i64 0, .int .i64 0, .slice none 0 0] 55)
  have brw0 := Blk.new w 55 #[.slice none 0 0, .slice none 0 0, .slice none 0 0, .slice none 0 0, .int .i64 0, .slice none 0 0, .slice none 0 0, .int .i64 0, .int .i64 0, .int .i64 0, .slice none 0 0]
  have hrw0 := h.keep hb0
  have HS : Hid (kPt s = kL kI (gInt (gInt (gInt (kL kI (kL k2 (gInt (kL k2 (kL kPo (kL k3 (kL kRg s))))).2))).2).2).2) := rfl
  go_enter Tryz.func42, Tryz.ntmps42
  go_upto_region 1 with fail
  generalize w.alloc (.cells #[.slice none 0 0, .slice none 0 0, .slice none 0 0, .slice none 0 0, .int .i64 0, .slice none 0 0, .slice none 0 0, .int .i64 0, .int .i64 0, .int .i64 0, .slice none 0 0] 55) = w0 at hb0 brw0 hrw0 ⊢
  obtain ⟨gr, hgw⟩ : ∃ gr, gr = w.heap.size := ⟨_, rfl⟩
  rw [← hgw] at brw0 ⊢
  have hrg : ¬ gr = g := by omega
  have hle : w.heap.size ≤ gr := Nat.le_of_eq hgw.symm
  have hl0 := brw0.lt
  clear hgw
  have hbp := (Below.refl w0.heap.size w0).alloc (Nat.le_refl _) (.cells #[.slice none 0 0, .slice none 0 0, .slice none 0 0, .slice none 0 0, .int .i64 0, .slice none 0 0, .slice none 0 0, .int .i64 0, .int .i64 0, .int .i64 0, .slice none 0 0] 55)
  have bpw1 := Blk.new w0 55 #[.slice none 0 0, .slice none 0 0, .slice none 0 0, .slice none 0 0, .int .i64 0, .slice none 0 0, .slice none 0 0, .int .i64 0, .int .i64 0, .int .i64 0, .slice none 0 0]
  have hrw1 := hrw0.keep hbp
  have brw1 := brw0.keep hbp
  go_upto_region 2 with fail
  generalize w0.alloc (.cells #[.slice none 0 0, .slice none 0 0, .slice none 0 0, .slice none 0 0, .int .i64 0, .slice none 0 0, .slice none 0 0, .int .i64 0, .int .i64 0, .int .i64 0, .slice none 0 0] 55) = w1 at hbp bpw1 hrw1 brw1 ⊢
  obtain ⟨gp, hgp⟩ : ∃ gp, gp = w0.heap.size := ⟨_, rfl⟩
  rw [← hgp] at bpw1 ⊢
  have hpg : ¬ gp = g := by omega
  have hrp : ¬ gr = gp := by omega
  have hgg : g < gp := by omega
  have hlr : gr < gp := by omega
  have hpl : w0.heap.size ≤ gp := Nat.le_of_eq hgp.symm
  have Fw1 : Fr (fun q => q = g ∨ q = gp) w0 w1 := Fr.of_below hbp _
  clear hgp hrw0 brw0 hbp
  go_wp2_with fail
  have V1 := Lib.hid (kHead_v (s := s))
  have M1 := manyV_rng s
  have K1 := Lib.hid (kL_many kRg s)
  have u1 := Lib.hid (kL_stick (f := kRg) (s := s))
  refine (rrMany_any hrw1).mono ?_
  rintro e w2 ⟨rfl, hrw2, hf⟩
  obtain ⟨N1, hN⟩ := Int.eq_ofNat_of_zero_le M1.1
  rw [hN] at M1 K1 V1 ⊢
  rw [Int.toNat_natCast] at K1
  clear hN
  generalize kHead s = t1 at hrw2 K1 V1
  generalize hKL : kL kRg s = z1 at HS K1 u1
  clear hKL
  have hc : Fr (fun q => q = g ∨ q = gp) w1 w2 := hf.mono (fun q _ e => .inl e)
  have bpw2 := bpw1.fr hf hpg
  have lpsw2 := bpw2.lt
  have brw2 := brw1.fr hc (fun h => h.elim hrg hrp)
  have Fw2 := Fw1.trans hc
  clear brw1 Fw1
  clear hf hc hrw1 bpw1
  go_wp2_with fail
  go_loopw [5, 6, 7] (fun ic _ _ wr => ∃ (v : Value) (k : Nat) (dn : List Rg) (sc : RS), k ≤ N1 ∧ ic = .int .i64 k ∧ dn.length = k ∧ wr.ownsRow w2.heap.size 124 3 v k (dn.flatMap rdRg.f) ∧ (∀ x ∈ dn, rdRg.ok wr x) ∧ (∀ x ∈ dn, ∀ b, ftRg.blk x b → w2.heap.size ≤ b ∧ v.ownBlock ≠ some b) ∧ RfSt wr g A n c l sc ∧ Blk wr gp 55 #[v, .slice none 0 0, .slice none 0 0, .slice none 0 0, .int .i64 0, .slice none 0 0, .slice none 0 0, .int .i64 0, .int .i64 0, .int .i64 0, .slice none 0 0] ∧ Fr (fun q => q = g ∨ q = gp) w2 wr ∧ Hid (kRep kRg N1 t1 = kRep kRg (N1 - k) sc) ∧ Hid (sc.e = 0 → t1.e = 0 ∧ t1.l = dn.flatMap encRg ++ sc.l ∧ dn.any noB = false)) (fun ic _ _ _ => N1 - (intOf ic).toNat)
  case atStart => exact ⟨_, 0, [], t1, Nat.zero_le _, rfl, rfl, World.ownsRow_nil _ _ _ _, (fun x h => by cases h), (fun x h => by cases h), hrw2, bpw2, Fr.refl _ _, by unfold Hid; simp, fun h => ⟨h, rfl, rfl⟩⟩
  case round =>
    obtain ⟨v, k, dn, s1, hk, rfl, hdl, hown, hok, hbl, hr, bp, hfw, HG, HC⟩ := hrel
    obtain ⟨w3, hwo⟩ : ∃ w : World, w = wr := ⟨_, rfl⟩
    subst hwo
    have hsz := hfw.size
    have hgw := hr.lt
    have d2 : w3.cell? ⟨g, 2, none⟩ = some (.int .i64 s1.e) := by
      obtain ⟨_, _, _, ra, rb, _⟩ := hr
      exact rb.cell 2
    go_upto_region 4 with fail
    go_cut [30] from 21 to 46 (fun c wx => c = .bool (decide (k < N1 ∧ s1.e = 0)) ∧ w3 = wx)
    case first =>
      by_cases hlt : k < N1
      · by_cases he : s1.e = 0
        · have he' : (s1.e == 0) = true := by simpa using he
          go_wp2_with fail
          go_meet
          exact ⟨by rw [decide_eq_true ⟨hlt, he⟩], rfl⟩
        · have he' : (s1.e == 0) = false := by simpa using he
          go_wp2_with fail
          go_meet
          exact ⟨by rw [decide_eq_false (fun h => he h.2)], rfl⟩
      · go_wp2_with fail
        go_meet
        exact ⟨by rw [decide_eq_false (fun h => hlt h.1)], rfl⟩
    case rest =>
      obtain ⟨rfl, hwc⟩ := hcut
      subst hwc
      by_cases hlt : k < N1 ∧ s1.e = 0
      · have _d := True.intro
        have hd : decide (k < N1 ∧ s1.e = 0) = true := decide_eq_true hlt
        obtain ⟨hlt, he⟩ := hlt
        rw [hd]
        clear hd d2
        have HM : Hid (kRep kRg N1 t1 = kRep kRg (N1 - (k + 1)) (kRg s1)) := by
          unfold Hid
          rw [HG.out, show N1 - k = (N1 - (k + 1)) + 1 by omega, kRep_more he]
        have HC2 := Lib.hid (HC.out he)
        clear HG HC he
        have HK : Hid (kRg s1 = (gBool (gInt (gInt s1).2).2).2) := rfl
        go_wp2_with fail
        refine (rrInt_any hr).mono ?_
        rintro e w4 ⟨rfl, hrw4, hfw4⟩
        have j0 := gInt_rng s1
        have x0 := Lib.hid (gInt_inv (s := s1))
        generalize (gInt s1).1 = y0 at x0 j0 ⊢
        generalize (gInt s1).2 = s1x0 at hrw4 HK x0
        have hfa := hfw4
        go_wp2_with fail
        refine (rrInt_any hrw4).mono ?_
        rintro e w5 ⟨rfl, hrw5, hfw5⟩
        have j1 := gInt_rng s1x0
        have x1 := Lib.hid (gInt_inv (s := s1x0))
        generalize (gInt s1x0).1 = y1 at x1 j1 ⊢
        generalize (gInt s1x0).2 = s1x1 at hrw5 HK x1
        replace hfa := hfa.trans hfw5
        go_wp2_with fail
        have hvp : ¬ v.ownBlock = some gp := fun e => by have := (hown.lt gp e).1; omega
        have hvg : ¬ v.ownBlock = some g := fun e => by have := (hown.lt g e).1; omega
        have bpa := bp.fr hfa hpg
        have pf : w5.cell? ⟨gp, 0, none⟩ = some v := bpa.cell 0
        have lpa := bpa.lt
        have hSp : ¬ (gp = g ∨ v.ownBlock = some gp) := fun h => h.elim hpg hvp
        refine wp_region_fen (fun j => j = g ∨ v.ownBlock = some j) [(5, 0), (1, 0), (0, 0), (1, 2)] (by kernel_rfl) (by kernel_rfl) ?_
        simp only [wpSegsF, List.take, List.drop]
        repeat (go_big_quiet_step (fail))
        refine wpQuiet_nil (wpHeadF_want rfl (fun K' hK' => ?_))
        go_wp2_with fail
        refine (rrBool_any (w := w5.drew) hrw5).mono ?_
        rintro e w6 ⟨rfl, hrw6, hfw6⟩
        have x2 := Lib.hid (gBool_inv (s := s1x1))
        generalize (gBool s1x1).1 = y2 at x2 ⊢
        generalize (gBool s1x1).2 = s1x2 at hrw6 HK x2
        replace hfw6 : Fr (fun q => q = g) w5 w6 := (Fr.drew (Fr.refl _ w5)).trans hfw6
        replace hfa := hfa.trans hfw6
        refine hK' _ _ rfl (fr_graft (hfw6.mono (fun q _ e => .inl e))) ?_
        clear hK' K'
        try simp only [List.take, List.drop]
        repeat (go_big_quiet_step (fail))
        refine wpQuiet_nil (wpHeadF_want rfl (fun K' hK' => ?_))
        go_wp2_with fail
        refine hK' _ _ rfl (fr_graft ((hfw6.mono (S' := fun q => q = g ∨ v.ownBlock = some q) (fun q _ e => .inl e)).alloc _)) ?_
        clear hK' K'
        try simp only [List.take, List.drop]
        repeat (go_big_quiet_step (fail))
        refine wpQuiet_nil (wpHeadF_want rfl (fun K' hK' => ?_))
        have hownB := own_far hown hfa (fun q e => by omega)
        have hzB := hfa.size
        obtain ⟨i0, hi0, hz0, hz1, hz2⟩ := info_parts RgG_info
        refine wp_app_blk _ _ _ 49 (by rfl) w2.heap.size 124 i0 _ 3 24 (by kernel_rfl) hi0 hz0 hz1 hz2 rfl (by decide) (by decide) v k _ (by rfl) (hownB.alloc _) w6.heap.size #[.int .i64 y0, .int .i64 y1, .bool y2] rfl (by simp [Value.oneCell']) (Blk.new _ _ _) (by rfl) (by omega) (by have := World.size_alloc w6 (.cells #[.int .i64 y0, .int .i64 y1, .bool y2] 124); omega) ?_
        intro gg cap w7 hownC hfC hatC
        replace hfC : Fr (fun q => v.ownBlock = some q) w6 w7 := ((Fr.refl _ w6).alloc _).trans hfC
        rw [World.size_alloc] at hatC
        refine hK' _ _ rfl (fr_graft ((hfw6.mono (S' := fun q => q = g ∨ v.ownBlock = some q) (fun q _ e => .inl e)).trans (hfC.mono (fun q _ e => .inr e)))) ?_
        clear hK' K'
        try simp only [List.take, List.drop]
        simp only [Act.put, List.setIfInBounds_toArray, List.set_cons_succ, List.set_cons_zero]
        repeat (go_big_quiet_step (fail))
        have bpd := (bp.fr hfa hpg).fr hfC hvp
        have pd : w7.cell? ⟨gp, 0, none⟩ = some v := bpd.cell 0
        have fzd : ∀ i, w7.frozen? ⟨gp, i, none⟩ = false := bpd.frozen
        have lpd := bpd.lt
        refine wpQuiet_nil (wpHeadF_bar rfl (fun K' hK' => ?_))
        go_wp2_with fail
        refine hK' _ _ (fun _ => False) rfl ?_
        clear hK' K'
        try simp only [wpSegsF]
        repeat (go_big_quiet_step (fail))
        refine wpQuiet_nil ?_
        have bpe : Blk (w7.setCell ⟨gp, 0, none⟩ (.slice (some ⟨gg, 0, none⟩) (k + 1) cap)) gp 55 #[.slice (some ⟨gg, 0, none⟩) (k + 1) cap, .slice none 0 0, .slice none 0 0, .slice none 0 0, .int .i64 0, .slice none 0 0, .slice none 0 0, .int .i64 0, .int .i64 0, .int .i64 0, .slice none 0 0] := bpd.set_ 0 _
        have hse : Fr (fun q => q = gp) w7 (w7.setCell ⟨gp, 0, none⟩ (.slice (some ⟨gg, 0, none⟩) (k + 1) cap)) := (Fr.refl (fun q => q = gp) w7).setCell (p := ⟨gp, 0, none⟩) (fun _ => rfl) _
        have hre := (hrw6.fr hfC (fun q e => by have := (hownB.lt q e).1; omega)).fr hse (fun q e => by omega)
        have hgge : w2.heap.size ≤ gg := (hownC.lt gg rfl).1
        have howne := own_fr hownC hse (fun q _ e h => by cases e; omega)
        generalize w7.setCell ⟨gp, 0, none⟩ (.slice (some ⟨gg, 0, none⟩) (k + 1) cap) = w8 at bpe hse hre howne ⊢
        have hfe : Fr (fun q => q = g ∨ q = gp) w2 w8 := ((hfw.trans (hfa.mono (fun q _ e => .inl e))).trans' (hfC.mono (S' := fun q => v.ownBlock = some q) (fun q _ e => e)) (fun q hq e => by have := (hownB.lt q e).1; omega)).trans (hse.mono (fun q _ e => .inr e))
        have HC4 : Hid (s1x2.e = 0 → t1.e = 0 ∧ t1.l = (dn ++ [(⟨y0, y1, y2⟩ : Rg)]).flatMap encRg ++ s1x2.l ∧ (dn ++ [(⟨y0, y1, y2⟩ : Rg)]).any noB = false) := fun he => by
          obtain ⟨a2, l2⟩ := x2.out he
          obtain ⟨a1, l1⟩ := x1.out a2
          obtain ⟨a0, l0⟩ := x0.out a1
          obtain ⟨c0, c1, c2⟩ := HC2.out
          refine ⟨c0, ?_, ?_⟩
          · rw [c1, List.flatMap_append, l0, l1, l2]
            simp only [List.flatMap_cons, List.flatMap_nil, List.append_nil, List.append_assoc, encRg, intsB_cons, intsB_nil, List.append_nil, List.append_assoc]
          · rw [List.any_append, c2, List.any_cons]
            rfl
        rw [HK.out] at HM
        have hok4 : ∀ x ∈ dn ++ [(⟨y0, y1, y2⟩ : Rg)], rdRg.ok w8 x := fun x hx => by
          rcases List.mem_append.1 hx with hx | hx
          · exact hok x hx
          · obtain rfl := List.mem_singleton.1 hx
            exact ⟨j0, j1, trivial⟩
        have hbl4 : ∀ x ∈ dn ++ [(⟨y0, y1, y2⟩ : Rg)], ∀ b, ftRg.blk x b → w2.heap.size ≤ b ∧ (Value.slice (some ⟨gg, 0, none⟩) (k + 1) cap).ownBlock ≠ some b := fun x hx b hb => hb.elim
        clear hownC hatC hownB
        go_wp2_with fail
        exact ⟨⟨_, k + 1, dn ++ [(⟨y0, y1, y2⟩ : Rg)], s1x2, by omega, by go_num, by simp [hdl], by rw [List.flatMap_append]; simpa [rdRg, Rg.f, Hd.v] using howne, hok4, hbl4, hre, bpe, hfe, HM, HC4⟩, by simp [intOf]; omega⟩
      · have hd : decide (k < N1 ∧ s1.e = 0) = false := decide_eq_false hlt
        rw [hd]
        clear hd d2
        have HFIN : Hid (z1 = s1) := by
          unfold Hid
          rw [K1.out, HG.out]
          by_cases hkn : k < N1
          · exact kRep_err (fun h => hlt ⟨hkn, h⟩)
          · rw [show N1 - k = 0 by omega]
            rfl
        have v1 : Hid (s1.e = 0 → s.l = lst encRg dn ++ s1.l ∧ badL noB dn = false) := fun he => by
          obtain ⟨c0, c1, c2⟩ := HC.out he
          have hkn : k = N1 := by
            by_cases hkn : k < N1
            · exact absurd ⟨hkn, he⟩ hlt
            · omega
          refine ⟨?_, ?_⟩
          · rw [V1.out c0, c1, ← hkn, ← hdl]
            unfold lst
            rw [List.append_assoc]
          · unfold badL
            rw [c2, hdl]
            simp
            omega
        rw [HFIN.out] at HS u1
        obtain ⟨A9, c9, hv9, hs9, hb9⟩ := SlG.of_own hown (fun x _ => rdRg.len x) hdl
        rw [hv9] at bp
        obtain ⟨n1, hn1⟩ : ∃ h : Hd Rg, h = ⟨A9, c9, dn⟩ := ⟨_, rfl⟩
        have eA : A9 = n1.A := by rw [hn1]
        have ec : c9 = n1.c := by rw [hn1]
        have el : dn = n1.l := by rw [hn1]
        have o1 : n1.ok rdRg w3 := by rw [hn1]; exact ⟨by rw [← hdl] at hs9; exact hs9, hok⟩
        have q1 : ∀ b, blkH ftRg n1 b → gp < b ∧ g < b := fun b hb => by
          rw [hn1] at hb
          have h9 : w2.heap.size ≤ b := by
            rcases hb with ⟨_, o, e⟩ | ⟨x, hx, hb⟩
            · exact hb9 b o e
            · exact (hbl x hx b hb).1
          exact ⟨by omega, by omega⟩
        rw [el] at v1 hdl
        rw [eA, ec, ← hdl] at bp
        clear hdl hn1 eA ec el hs9 hb9 hv9 hok hbl hown HG HC V1 K1 HFIN hlt
        have hrw3 := hr
        have bpw3 := bp
        clear hr bp
        have brw3 := brw2.fr hfw (fun h => h.elim hrg hrp)
        have Fw3 := Fw2.trans hfw
        clear brw2 Fw2
        clear hfw hrw2 bpw2 lpsw2 hsz hgw
        go_wp2_with fail
        have V2 := Lib.hid (kHead_v (s := s1))
        have M2 := manyV_rng s1
        have K2 := Lib.hid (kL_many k3 s1)
        have u2 := Lib.hid (kL_stick (f := k3) (s := s1))
        refine (rrMany_any hrw3).mono ?_
        rintro e w9 ⟨rfl, hrw9, hf⟩
        obtain ⟨N2, hN⟩ := Int.eq_ofNat_of_zero_le M2.1
        rw [hN] at M2 K2 V2 ⊢
        rw [Int.toNat_natCast] at K2
        clear hN
        generalize kHead s1 = t2 at hrw9 K2 V2
        generalize hKL : kL k3 s1 = z2 at HS K2 u2
        clear hKL
        have hc : Fr (fun q => q = g ∨ q = gp) w3 w9 := hf.mono (fun q _ e => .inl e)
        have bpw9 := bpw3.fr hf hpg
        have lpsw9 := bpw9.lt
        have brw9 := brw3.fr hc (fun h => h.elim hrg hrp)
        have Fw9 := Fw3.trans hc
        replace o1 := okH_fr ftRg o1 hc (fun b hb e => by have := q1 b hb; omega)
        clear brw3 Fw3
        clear hf hc hrw3 bpw3
        go_wp2_with fail
        go_loopw [8, 9, 10] (fun ic _ _ wr => ∃ (v : Value) (k : Nat) (dn : List Pc) (sc : RS), k ≤ N2 ∧ ic = .int .i64 k ∧ dn.length = k ∧ wr.ownsRow w9.heap.size 129 3 v k (dn.flatMap rdPc.f) ∧ (∀ x ∈ dn, rdPc.ok wr x) ∧ (∀ x ∈ dn, ∀ b, ftPc.blk x b → w9.heap.size ≤ b ∧ v.ownBlock ≠ some b) ∧ RfSt wr g A n c l sc ∧ Blk wr gp 55 #[.slice n1.A n1.l.length n1.c, v, .slice none 0 0, .slice none 0 0, .int .i64 0, .slice none 0 0, .slice none 0 0, .int .i64 0, .int .i64 0, .int .i64 0, .slice none 0 0] ∧ Fr (fun q => q = g ∨ q = gp) w9 wr ∧ Hid (kRep k3 N2 t2 = kRep k3 (N2 - k) sc) ∧ Hid (sc.e = 0 → t2.e = 0 ∧ t2.l = dn.flatMap encPc ++ sc.l ∧ dn.any noB = false)) (fun ic _ _ _ => N2 - (intOf ic).toNat)
        case atStart => exact ⟨_, 0, [], t2, Nat.zero_le _, rfl, rfl, World.ownsRow_nil _ _ _ _, (fun x h => by cases h), (fun x h => by cases h), hrw9, bpw9, Fr.refl _ _, by unfold Hid; simp, fun h => ⟨h, rfl, rfl⟩⟩
        case round =>
          obtain ⟨v, k, dn, s2, hk, rfl, hdl, hown, hok, hbl, hr, bp, hfw, HG, HC⟩ := hrel
          obtain ⟨w10, hwo⟩ : ∃ w : World, w = wr := ⟨_, rfl⟩
          subst hwo
          have hsz := hfw.size
          have hgw := hr.lt
          have d2 : w10.cell? ⟨g, 2, none⟩ = some (.int .i64 s2.e) := by
            obtain ⟨_, _, _, ra, rb, _⟩ := hr
            exact rb.cell 2
          go_upto_region 11 with fail
          go_cut [58] from 49 to 74 (fun c wx => c = .bool (decide (k < N2 ∧ s2.e = 0)) ∧ w10 = wx)
          case first =>
            by_cases hlt : k < N2
            · by_cases he : s2.e = 0
              · have he' : (s2.e == 0) = true := by simpa using he
                go_wp2_with fail
                go_meet
                exact ⟨by rw [decide_eq_true ⟨hlt, he⟩], rfl⟩
              · have he' : (s2.e == 0) = false := by simpa using he
                go_wp2_with fail
                go_meet
                exact ⟨by rw [decide_eq_false (fun h => he h.2)], rfl⟩
            · go_wp2_with fail
              go_meet
              exact ⟨by rw [decide_eq_false (fun h => hlt h.1)], rfl⟩
          case rest =>
            obtain ⟨rfl, hwc⟩ := hcut
            subst hwc
            by_cases hlt : k < N2 ∧ s2.e = 0
            · have _d := True.intro
              have hd : decide (k < N2 ∧ s2.e = 0) = true := decide_eq_true hlt
              obtain ⟨hlt, he⟩ := hlt
              rw [hd]
              clear hd d2
              have HM : Hid (kRep k3 N2 t2 = kRep k3 (N2 - (k + 1)) (k3 s2)) := by
                unfold Hid
                rw [HG.out, show N2 - k = (N2 - (k + 1)) + 1 by omega, kRep_more he]
              have HC2 := Lib.hid (HC.out he)
              clear HG HC he
              have HK : Hid (k3 s2 = (gInt (gInt (gInt s2).2).2).2) := rfl
              go_wp2_with fail
              refine (rrInt_any hr).mono ?_
              rintro e w11 ⟨rfl, hrw11, hfw11⟩
              have j0 := gInt_rng s2
              have x0 := Lib.hid (gInt_inv (s := s2))
              generalize (gInt s2).1 = y0 at x0 j0 ⊢
              generalize (gInt s2).2 = s2x0 at hrw11 HK x0
              have hfa := hfw11
              go_wp2_with fail
              refine (rrInt_any hrw11).mono ?_
              rintro e w12 ⟨rfl, hrw12, hfw12⟩
              have j1 := gInt_rng s2x0
              have x1 := Lib.hid (gInt_inv (s := s2x0))
              generalize (gInt s2x0).1 = y1 at x1 j1 ⊢
              generalize (gInt s2x0).2 = s2x1 at hrw12 HK x1
              replace hfa := hfa.trans hfw12
              go_wp2_with fail
              have hvp : ¬ v.ownBlock = some gp := fun e => by have := (hown.lt gp e).1; omega
              have hvg : ¬ v.ownBlock = some g := fun e => by have := (hown.lt g e).1; omega
              have bpa := bp.fr hfa hpg
              have pf : w12.cell? ⟨gp, 1, none⟩ = some v := bpa.cell 1
              have lpa := bpa.lt
              have hSp : ¬ (gp = g ∨ v.ownBlock = some gp) := fun h => h.elim hpg hvp
              refine wp_region_fen (fun j => j = g ∨ v.ownBlock = some j) [(5, 0), (1, 0), (0, 0), (1, 2)] (by kernel_rfl) (by kernel_rfl) ?_
              simp only [wpSegsF, List.take, List.drop]
              repeat (go_big_quiet_step (fail))
              refine wpQuiet_nil (wpHeadF_want rfl (fun K' hK' => ?_))
              go_wp2_with fail
              refine (rrInt_any (w := w12.drew) hrw12).mono ?_
              rintro e w13 ⟨rfl, hrw13, hfw13⟩
              have j2 := gInt_rng s2x1
              have x2 := Lib.hid (gInt_inv (s := s2x1))
              generalize (gInt s2x1).1 = y2 at x2 j2 ⊢
              generalize (gInt s2x1).2 = s2x2 at hrw13 HK x2
              replace hfw13 : Fr (fun q => q = g) w12 w13 := (Fr.drew (Fr.refl _ w12)).trans hfw13
              replace hfa := hfa.trans hfw13
              refine hK' _ _ rfl (fr_graft (hfw13.mono (fun q _ e => .inl e))) ?_
              clear hK' K'
              try simp only [List.take, List.drop]
              repeat (go_big_quiet_step (fail))
              refine wpQuiet_nil (wpHeadF_want rfl (fun K' hK' => ?_))
              go_wp2_with fail
              refine hK' _ _ rfl (fr_graft ((hfw13.mono (S' := fun q => q = g ∨ v.ownBlock = some q) (fun q _ e => .inl e)).alloc _)) ?_
              clear hK' K'
              try simp only [List.take, List.drop]
              repeat (go_big_quiet_step (fail))
              refine wpQuiet_nil (wpHeadF_want rfl (fun K' hK' => ?_))
              have hownB := own_far hown hfa (fun q e => by omega)
              have hzB := hfa.size
              obtain ⟨i0, hi0, hz0, hz1, hz2⟩ := info_parts PcG_info
              refine wp_app_blk _ _ _ 50 (by rfl) w9.heap.size 129 i0 _ 3 24 (by kernel_rfl) hi0 hz0 hz1 hz2 rfl (by decide) (by decide) v k _ (by rfl) (hownB.alloc _) w13.heap.size #[.int .i64 y0, .int .i64 y1, .int .i64 y2] rfl (by simp [Value.oneCell']) (Blk.new _ _ _) (by rfl) (by omega) (by have := World.size_alloc w13 (.cells #[.int .i64 y0, .int .i64 y1, .int .i64 y2] 129); omega) ?_
              intro gg cap w14 hownC hfC hatC
              replace hfC : Fr (fun q => v.ownBlock = some q) w13 w14 := ((Fr.refl _ w13).alloc _).trans hfC
              rw [World.size_alloc] at hatC
              refine hK' _ _ rfl (fr_graft ((hfw13.mono (S' := fun q => q = g ∨ v.ownBlock = some q) (fun q _ e => .inl e)).trans (hfC.mono (fun q _ e => .inr e)))) ?_
              clear hK' K'
              try simp only [List.take, List.drop]
              simp only [Act.put, List.setIfInBounds_toArray, List.set_cons_succ, List.set_cons_zero]
              repeat (go_big_quiet_step (fail))
              have bpd := (bp.fr hfa hpg).fr hfC hvp
              have pd : w14.cell? ⟨gp, 1, none⟩ = some v := bpd.cell 1
              have fzd : ∀ i, w14.frozen? ⟨gp, i, none⟩ = false := bpd.frozen
              have lpd := bpd.lt
              refine wpQuiet_nil (wpHeadF_bar rfl (fun K' hK' => ?_))
              go_wp2_with fail
              refine hK' _ _ (fun _ => False) rfl ?_
              clear hK' K'
              try simp only [wpSegsF]
              repeat (go_big_quiet_step (fail))
              refine wpQuiet_nil ?_
              have bpe : Blk (w14.setCell ⟨gp, 1, none⟩ (.slice (some ⟨gg, 0, none⟩) (k + 1) cap)) gp 55 #[.slice n1.A n1.l.length n1.c, .slice (some ⟨gg, 0, none⟩) (k + 1) cap, .slice none 0 0, .slice none 0 0, .int .i64 0, .slice none 0 0, .slice none 0 0, .int .i64 0, .int .i64 0, .int .i64 0, .slice none 0 0] := bpd.set_ 1 _
              have hse : Fr (fun q => q = gp) w14 (w14.setCell ⟨gp, 1, none⟩ (.slice (some ⟨gg, 0, none⟩) (k + 1) cap)) := (Fr.refl (fun q => q = gp) w14).setCell (p := ⟨gp, 1, none⟩) (fun _ => rfl) _
              have hre := (hrw13.fr hfC (fun q e => by have := (hownB.lt q e).1; omega)).fr hse (fun q e => by omega)
              have hgge : w9.heap.size ≤ gg := (hownC.lt gg rfl).1
              have howne := own_fr hownC hse (fun q _ e h => by cases e; omega)
              generalize w14.setCell ⟨gp, 1, none⟩ (.slice (some ⟨gg, 0, none⟩) (k + 1) cap) = w15 at bpe hse hre howne ⊢
              have hfe : Fr (fun q => q = g ∨ q = gp) w9 w15 := ((hfw.trans (hfa.mono (fun q _ e => .inl e))).trans' (hfC.mono (S' := fun q => v.ownBlock = some q) (fun q _ e => e)) (fun q hq e => by have := (hownB.lt q e).1; omega)).trans (hse.mono (fun q _ e => .inr e))
              have HC4 : Hid (s2x2.e = 0 → t2.e = 0 ∧ t2.l = (dn ++ [(⟨y0, y1, y2⟩ : Pc)]).flatMap encPc ++ s2x2.l ∧ (dn ++ [(⟨y0, y1, y2⟩ : Pc)]).any noB = false) := fun he => by
                obtain ⟨a2, l2⟩ := x2.out he
                obtain ⟨a1, l1⟩ := x1.out a2
                obtain ⟨a0, l0⟩ := x0.out a1
                obtain ⟨c0, c1, c2⟩ := HC2.out
                refine ⟨c0, ?_, ?_⟩
                · rw [c1, List.flatMap_append, l0, l1, l2]
                  simp only [List.flatMap_cons, List.flatMap_nil, List.append_nil, List.append_assoc, encPc, intsB_cons, intsB_nil, List.append_nil, List.append_assoc]
                · rw [List.any_append, c2, List.any_cons]
                  rfl
              rw [HK.out] at HM
              have hok4 : ∀ x ∈ dn ++ [(⟨y0, y1, y2⟩ : Pc)], rdPc.ok w15 x := fun x hx => by
                rcases List.mem_append.1 hx with hx | hx
                · exact hok x hx
                · obtain rfl := List.mem_singleton.1 hx
                  exact ⟨j0, j1, j2⟩
              have hbl4 : ∀ x ∈ dn ++ [(⟨y0, y1, y2⟩ : Pc)], ∀ b, ftPc.blk x b → w9.heap.size ≤ b ∧ (Value.slice (some ⟨gg, 0, none⟩) (k + 1) cap).ownBlock ≠ some b := fun x hx b hb => hb.elim
              clear hownC hatC hownB
              go_wp2_with fail
              exact ⟨⟨_, k + 1, dn ++ [(⟨y0, y1, y2⟩ : Pc)], s2x2, by omega, by go_num, by simp [hdl], by rw [List.flatMap_append]; simpa [rdPc, Pc.f, Hd.v] using howne, hok4, hbl4, hre, bpe, hfe, HM, HC4⟩, by simp [intOf]; omega⟩
            · have hd : decide (k < N2 ∧ s2.e = 0) = false := decide_eq_false hlt
              rw [hd]
              clear hd d2
              have HFIN : Hid (z2 = s2) := by
                unfold Hid
                rw [K2.out, HG.out]
                by_cases hkn : k < N2
                · exact kRep_err (fun h => hlt ⟨hkn, h⟩)
                · rw [show N2 - k = 0 by omega]
                  rfl
              have v2 : Hid (s2.e = 0 → s1.l = lst encPc dn ++ s2.l ∧ badL noB dn = false) := fun he => by
                obtain ⟨c0, c1, c2⟩ := HC.out he
                have hkn : k = N2 := by
                  by_cases hkn : k < N2
                  · exact absurd ⟨hkn, he⟩ hlt
                  · omega
                refine ⟨?_, ?_⟩
                · rw [V2.out c0, c1, ← hkn, ← hdl]
                  unfold lst
                  rw [List.append_assoc]
                · unfold badL
                  rw [c2, hdl]
                  simp
                  omega
              rw [HFIN.out] at HS u2
              obtain ⟨A9, c9, hv9, hs9, hb9⟩ := SlG.of_own hown (fun x _ => rdPc.len x) hdl
              rw [hv9] at bp
              obtain ⟨n2, hn2⟩ : ∃ h : Hd Pc, h = ⟨A9, c9, dn⟩ := ⟨_, rfl⟩
              have eA : A9 = n2.A := by rw [hn2]
              have ec : c9 = n2.c := by rw [hn2]
              have el : dn = n2.l := by rw [hn2]
              have o2 : n2.ok rdPc w10 := by rw [hn2]; exact ⟨by rw [← hdl] at hs9; exact hs9, hok⟩
              have q2 : ∀ b, blkH ftPc n2 b → gp < b ∧ g < b := fun b hb => by
                rw [hn2] at hb
                have h9 : w9.heap.size ≤ b := by
                  rcases hb with ⟨_, o, e⟩ | ⟨x, hx, hb⟩
                  · exact hb9 b o e
                  · exact (hbl x hx b hb).1
                exact ⟨by omega, by omega⟩
              rw [el] at v2 hdl
              rw [eA, ec, ← hdl] at bp
              clear hdl hn2 eA ec el hs9 hb9 hv9 hok hbl hown HG HC V2 K2 HFIN hlt
              have hrw10 := hr
              have bpw10 := bp
              clear hr bp
              have brw10 := brw9.fr hfw (fun h => h.elim hrg hrp)
              have Fw10 := Fw9.trans hfw
              replace o1 := okH_fr ftRg o1 hfw (fun b hb e => by have := q1 b hb; omega)
              clear brw9 Fw9
              clear hfw hrw9 bpw9 lpsw9 hsz hgw
              go_wp2_with fail
              have V3 := Lib.hid (kHead_v (s := s2))
              have M3 := manyV_rng s2
              have K3 := Lib.hid (kL_many kPo s2)
              have u3 := Lib.hid (kL_stick (f := kPo) (s := s2))
              refine (rrMany_any hrw10).mono ?_
              rintro e w16 ⟨rfl, hrw16, hf⟩
              obtain ⟨N3, hN⟩ := Int.eq_ofNat_of_zero_le M3.1
              rw [hN] at M3 K3 V3 ⊢
              rw [Int.toNat_natCast] at K3
              clear hN
              generalize kHead s2 = t3 at hrw16 K3 V3
              generalize hKL : kL kPo s2 = z3 at HS K3 u3
              clear hKL
              have hc : Fr (fun q => q = g ∨ q = gp) w10 w16 := hf.mono (fun q _ e => .inl e)
              have bpw16 := bpw10.fr hf hpg
              have lpsw16 := bpw16.lt
              have brw16 := brw10.fr hc (fun h => h.elim hrg hrp)
              have Fw16 := Fw10.trans hc
              replace o1 := okH_fr ftRg o1 hc (fun b hb e => by have := q1 b hb; omega)
              replace o2 := okH_fr ftPc o2 hc (fun b hb e => by have := q2 b hb; omega)
              clear brw10 Fw10
              clear hf hc hrw10 bpw10
              go_wp2_with fail
              go_loopw [11, 12, 13, 14] (fun ic _ _ _ wr => ∃ (v : Value) (k : Nat) (dn : List Po) (sc : RS), k ≤ N3 ∧ ic = .int .i64 k ∧ dn.length = k ∧ wr.ownsRow w16.heap.size 133 4 v k (dn.flatMap rdPo.f) ∧ (∀ x ∈ dn, rdPo.ok wr x) ∧ (∀ x ∈ dn, ∀ b, ftPo.blk x b → w16.heap.size ≤ b ∧ v.ownBlock ≠ some b) ∧ RfSt wr g A n c l sc ∧ Blk wr gp 55 #[.slice n1.A n1.l.length n1.c, .slice n2.A n2.l.length n2.c, v, .slice none 0 0, .int .i64 0, .slice none 0 0, .slice none 0 0, .int .i64 0, .int .i64 0, .int .i64 0, .slice none 0 0] ∧ Fr (fun q => q = g ∨ q = gp) w16 wr ∧ Hid (kRep kPo N3 t3 = kRep kPo (N3 - k) sc) ∧ Hid (sc.e = 0 → t3.e = 0 ∧ t3.l = dn.flatMap encPo ++ sc.l ∧ dn.any noB = false)) (fun ic _ _ _ _ => N3 - (intOf ic).toNat)
              case atStart => exact ⟨_, 0, [], t3, Nat.zero_le _, rfl, rfl, World.ownsRow_nil _ _ _ _, (fun x h => by cases h), (fun x h => by cases h), hrw16, bpw16, Fr.refl _ _, by unfold Hid; simp, fun h => ⟨h, rfl, rfl⟩⟩
              case round =>
                obtain ⟨v, k, dn, s3, hk, rfl, hdl, hown, hok, hbl, hr, bp, hfw, HG, HC⟩ := hrel
                obtain ⟨w17, hwo⟩ : ∃ w : World, w = wr := ⟨_, rfl⟩
                subst hwo
                have hsz := hfw.size
                have hgw := hr.lt
                have d2 : w17.cell? ⟨g, 2, none⟩ = some (.int .i64 s3.e) := by
                  obtain ⟨_, _, _, ra, rb, _⟩ := hr
                  exact rb.cell 2
                go_upto_region 18 with fail
                go_cut [86] from 77 to 105 (fun c wx => c = .bool (decide (k < N3 ∧ s3.e = 0)) ∧ w17 = wx)
                case first =>
                  by_cases hlt : k < N3
                  · by_cases he : s3.e = 0
                    · have he' : (s3.e == 0) = true := by simpa using he
                      go_wp2_with fail
                      go_meet
                      exact ⟨by rw [decide_eq_true ⟨hlt, he⟩], rfl⟩
                    · have he' : (s3.e == 0) = false := by simpa using he
                      go_wp2_with fail
                      go_meet
                      exact ⟨by rw [decide_eq_false (fun h => he h.2)], rfl⟩
                  · go_wp2_with fail
                    go_meet
                    exact ⟨by rw [decide_eq_false (fun h => hlt h.1)], rfl⟩
                case rest =>
                  obtain ⟨rfl, hwc⟩ := hcut
                  subst hwc
                  by_cases hlt : k < N3 ∧ s3.e = 0
                  · have _d := True.intro
                    have hd : decide (k < N3 ∧ s3.e = 0) = true := decide_eq_true hlt
                    obtain ⟨hlt, he⟩ := hlt
                    rw [hd]
                    clear hd d2
                    have HM : Hid (kRep kPo N3 t3 = kRep kPo (N3 - (k + 1)) (kPo s3)) := by
                      unfold Hid
                      rw [HG.out, show N3 - k = (N3 - (k + 1)) + 1 by omega, kRep_more he]
                    have HC2 := Lib.hid (HC.out he)
                    clear HG HC he
                    have HK : Hid (kPo s3 = (gInt (gInt (gBool (gBool s3).2).2).2).2) := rfl
                    go_wp2_with fail
                    refine (rrBool_any hr).mono ?_
                    rintro e w18 ⟨rfl, hrw18, hfw18⟩
                    have x0 := Lib.hid (gBool_inv (s := s3))
                    generalize (gBool s3).1 = y0 at x0 ⊢
                    generalize (gBool s3).2 = s3x0 at hrw18 HK x0
                    have hfa := hfw18
                    go_wp2_with fail
                    refine (rrBool_any hrw18).mono ?_
                    rintro e w19 ⟨rfl, hrw19, hfw19⟩
                    have x1 := Lib.hid (gBool_inv (s := s3x0))
                    generalize (gBool s3x0).1 = y1 at x1 ⊢
                    generalize (gBool s3x0).2 = s3x1 at hrw19 HK x1
                    replace hfa := hfa.trans hfw19
                    go_wp2_with fail
                    refine (rrInt_any hrw19).mono ?_
                    rintro e w20 ⟨rfl, hrw20, hfw20⟩
                    have j2 := gInt_rng s3x1
                    have x2 := Lib.hid (gInt_inv (s := s3x1))
                    generalize (gInt s3x1).1 = y2 at x2 j2 ⊢
                    generalize (gInt s3x1).2 = s3x2 at hrw20 HK x2
                    replace hfa := hfa.trans hfw20
                    go_wp2_with fail
                    have hvp : ¬ v.ownBlock = some gp := fun e => by have := (hown.lt gp e).1; omega
                    have hvg : ¬ v.ownBlock = some g := fun e => by have := (hown.lt g e).1; omega
                    have bpa := bp.fr hfa hpg
                    have pf : w20.cell? ⟨gp, 2, none⟩ = some v := bpa.cell 2
                    have lpa := bpa.lt
                    have hSp : ¬ (gp = g ∨ v.ownBlock = some gp) := fun h => h.elim hpg hvp
                    refine wp_region_fen (fun j => j = g ∨ v.ownBlock = some j) [(6, 0), (1, 0), (0, 0), (1, 2)] (by kernel_rfl) (by kernel_rfl) ?_
                    simp only [wpSegsF, List.take, List.drop]
                    repeat (go_big_quiet_step (fail))
                    refine wpQuiet_nil (wpHeadF_want rfl (fun K' hK' => ?_))
                    go_wp2_with fail
                    refine (rrInt_any (w := w20.drew) hrw20).mono ?_
                    rintro e w21 ⟨rfl, hrw21, hfw21⟩
                    have j3 := gInt_rng s3x2
                    have x3 := Lib.hid (gInt_inv (s := s3x2))
                    generalize (gInt s3x2).1 = y3 at x3 j3 ⊢
                    generalize (gInt s3x2).2 = s3x3 at hrw21 HK x3
                    replace hfw21 : Fr (fun q => q = g) w20 w21 := (Fr.drew (Fr.refl _ w20)).trans hfw21
                    replace hfa := hfa.trans hfw21
                    refine hK' _ _ rfl (fr_graft (hfw21.mono (fun q _ e => .inl e))) ?_
                    clear hK' K'
                    try simp only [List.take, List.drop]
                    repeat (go_big_quiet_step (fail))
                    refine wpQuiet_nil (wpHeadF_want rfl (fun K' hK' => ?_))
                    go_wp2_with fail
                    refine hK' _ _ rfl (fr_graft ((hfw21.mono (S' := fun q => q = g ∨ v.ownBlock = some q) (fun q _ e => .inl e)).alloc _)) ?_
                    clear hK' K'
                    try simp only [List.take, List.drop]
                    repeat (go_big_quiet_step (fail))
                    refine wpQuiet_nil (wpHeadF_want rfl (fun K' hK' => ?_))
                    have hownB := own_far hown hfa (fun q e => by omega)
                    have hzB := hfa.size
                    obtain ⟨i0, hi0, hz0, hz1, hz2⟩ := info_parts PoG_info
                    refine wp_app_blk _ _ _ 51 (by rfl) w16.heap.size 133 i0 _ 4 24 (by kernel_rfl) hi0 hz0 hz1 hz2 rfl (by decide) (by decide) v k _ (by rfl) (hownB.alloc _) w21.heap.size #[.bool y0, .bool y1, .int .i64 y2, .int .i64 y3] rfl (by simp [Value.oneCell']) (Blk.new _ _ _) (by rfl) (by omega) (by have := World.size_alloc w21 (.cells #[.bool y0, .bool y1, .int .i64 y2, .int .i64 y3] 133); omega) ?_
                    intro gg cap w22 hownC hfC hatC
                    replace hfC : Fr (fun q => v.ownBlock = some q) w21 w22 := ((Fr.refl _ w21).alloc _).trans hfC
                    rw [World.size_alloc] at hatC
                    refine hK' _ _ rfl (fr_graft ((hfw21.mono (S' := fun q => q = g ∨ v.ownBlock = some q) (fun q _ e => .inl e)).trans (hfC.mono (fun q _ e => .inr e)))) ?_
                    clear hK' K'
                    try simp only [List.take, List.drop]
                    simp only [Act.put, List.setIfInBounds_toArray, List.set_cons_succ, List.set_cons_zero]
                    repeat (go_big_quiet_step (fail))
                    have bpd := (bp.fr hfa hpg).fr hfC hvp
                    have pd : w22.cell? ⟨gp, 2, none⟩ = some v := bpd.cell 2
                    have fzd : ∀ i, w22.frozen? ⟨gp, i, none⟩ = false := bpd.frozen
                    have lpd := bpd.lt
                    refine wpQuiet_nil (wpHeadF_bar rfl (fun K' hK' => ?_))
                    go_wp2_with fail
                    refine hK' _ _ (fun _ => False) rfl ?_
                    clear hK' K'
                    try simp only [wpSegsF]
                    repeat (go_big_quiet_step (fail))
                    refine wpQuiet_nil ?_
                    have bpe : Blk (w22.setCell ⟨gp, 2, none⟩ (.slice (some ⟨gg, 0, none⟩) (k + 1) cap)) gp 55 #[.slice n1.A n1.l.length n1.c, .slice n2.A n2.l.length n2.c, .slice (some ⟨gg, 0, none⟩) (k + 1) cap, .slice none 0 0, .int .i64 0, .slice none 0 0, .slice none 0 0, .int .i64 0, .int .i64 0, .int .i64 0, .slice none 0 0] := bpd.set_ 2 _
                    have hse : Fr (fun q => q = gp) w22 (w22.setCell ⟨gp, 2, none⟩ (.slice (some ⟨gg, 0, none⟩) (k + 1) cap)) := (Fr.refl (fun q => q = gp) w22).setCell (p := ⟨gp, 2, none⟩) (fun _ => rfl) _
                    have hre := (hrw21.fr hfC (fun q e => by have := (hownB.lt q e).1; omega)).fr hse (fun q e => by omega)
                    have hgge : w16.heap.size ≤ gg := (hownC.lt gg rfl).1
                    have howne := own_fr hownC hse (fun q _ e h => by cases e; omega)
                    generalize w22.setCell ⟨gp, 2, none⟩ (.slice (some ⟨gg, 0, none⟩) (k + 1) cap) = w23 at bpe hse hre howne ⊢
                    have hfe : Fr (fun q => q = g ∨ q = gp) w16 w23 := ((hfw.trans (hfa.mono (fun q _ e => .inl e))).trans' (hfC.mono (S' := fun q => v.ownBlock = some q) (fun q _ e => e)) (fun q hq e => by have := (hownB.lt q e).1; omega)).trans (hse.mono (fun q _ e => .inr e))
                    have HC4 : Hid (s3x3.e = 0 → t3.e = 0 ∧ t3.l = (dn ++ [(⟨y0, y1, y2, y3⟩ : Po)]).flatMap encPo ++ s3x3.l ∧ (dn ++ [(⟨y0, y1, y2, y3⟩ : Po)]).any noB = false) := fun he => by
                      obtain ⟨a3, l3⟩ := x3.out he
                      obtain ⟨a2, l2⟩ := x2.out a3
                      obtain ⟨a1, l1⟩ := x1.out a2
                      obtain ⟨a0, l0⟩ := x0.out a1
                      obtain ⟨c0, c1, c2⟩ := HC2.out
                      refine ⟨c0, ?_, ?_⟩
                      · rw [c1, List.flatMap_append, l0, l1, l2, l3]
                        simp only [List.flatMap_cons, List.flatMap_nil, List.append_nil, List.append_assoc, encPo, intsB_cons, intsB_nil, List.append_nil, List.append_assoc]
                      · rw [List.any_append, c2, List.any_cons]
                        rfl
                    rw [HK.out] at HM
                    have hok4 : ∀ x ∈ dn ++ [(⟨y0, y1, y2, y3⟩ : Po)], rdPo.ok w23 x := fun x hx => by
                      rcases List.mem_append.1 hx with hx | hx
                      · exact hok x hx
                      · obtain rfl := List.mem_singleton.1 hx
                        exact ⟨trivial, trivial, j2, j3⟩
                    have hbl4 : ∀ x ∈ dn ++ [(⟨y0, y1, y2, y3⟩ : Po)], ∀ b, ftPo.blk x b → w16.heap.size ≤ b ∧ (Value.slice (some ⟨gg, 0, none⟩) (k + 1) cap).ownBlock ≠ some b := fun x hx b hb => hb.elim
                    clear hownC hatC hownB
                    go_wp2_with fail
                    exact ⟨⟨_, k + 1, dn ++ [(⟨y0, y1, y2, y3⟩ : Po)], s3x3, by omega, by go_num, by simp [hdl], by rw [List.flatMap_append]; simpa [rdPo, Po.f, Hd.v] using howne, hok4, hbl4, hre, bpe, hfe, HM, HC4⟩, by simp [intOf]; omega⟩
                  · have hd : decide (k < N3 ∧ s3.e = 0) = false := decide_eq_false hlt
                    rw [hd]
                    clear hd d2
                    have HFIN : Hid (z3 = s3) := by
                      unfold Hid
                      rw [K3.out, HG.out]
                      by_cases hkn : k < N3
                      · exact kRep_err (fun h => hlt ⟨hkn, h⟩)
                      · rw [show N3 - k = 0 by omega]
                        rfl
                    have v3 : Hid (s3.e = 0 → s2.l = lst encPo dn ++ s3.l ∧ badL noB dn = false) := fun he => by
                      obtain ⟨c0, c1, c2⟩ := HC.out he
                      have hkn : k = N3 := by
                        by_cases hkn : k < N3
                        · exact absurd ⟨hkn, he⟩ hlt
                        · omega
                      refine ⟨?_, ?_⟩
                      · rw [V3.out c0, c1, ← hkn, ← hdl]
                        unfold lst
                        rw [List.append_assoc]
                      · unfold badL
                        rw [c2, hdl]
                        simp
                        omega
                    rw [HFIN.out] at HS u3
                    obtain ⟨A9, c9, hv9, hs9, hb9⟩ := SlG.of_own hown (fun x _ => rdPo.len x) hdl
                    rw [hv9] at bp
                    obtain ⟨n3, hn3⟩ : ∃ h : Hd Po, h = ⟨A9, c9, dn⟩ := ⟨_, rfl⟩
                    have eA : A9 = n3.A := by rw [hn3]
                    have ec : c9 = n3.c := by rw [hn3]
                    have el : dn = n3.l := by rw [hn3]
                    have o3 : n3.ok rdPo w17 := by rw [hn3]; exact ⟨by rw [← hdl] at hs9; exact hs9, hok⟩
                    have q3 : ∀ b, blkH ftPo n3 b → gp < b ∧ g < b := fun b hb => by
                      rw [hn3] at hb
                      have h9 : w16.heap.size ≤ b := by
                        rcases hb with ⟨_, o, e⟩ | ⟨x, hx, hb⟩
                        · exact hb9 b o e
                        · exact (hbl x hx b hb).1
                      exact ⟨by omega, by omega⟩
                    rw [el] at v3 hdl
                    rw [eA, ec, ← hdl] at bp
                    clear hdl hn3 eA ec el hs9 hb9 hv9 hok hbl hown HG HC V3 K3 HFIN hlt
                    have hrw17 := hr
                    have bpw17 := bp
                    clear hr bp
                    have brw17 := brw16.fr hfw (fun h => h.elim hrg hrp)
                    have Fw17 := Fw16.trans hfw
                    replace o1 := okH_fr ftRg o1 hfw (fun b hb e => by have := q1 b hb; omega)
                    replace o2 := okH_fr ftPc o2 hfw (fun b hb e => by have := q2 b hb; omega)
                    clear brw16 Fw16
                    clear hfw hrw16 bpw16 lpsw16 hsz hgw
                    go_wp2_with fail
                    have V4 := Lib.hid (kHead_v (s := s3))
                    have M4 := manyV_rng s3
                    have K4 := Lib.hid (kL_many k2 s3)
                    have u4 := Lib.hid (kL_stick (f := k2) (s := s3))
                    refine (rrMany_any hrw17).mono ?_
                    rintro e w24 ⟨rfl, hrw24, hf⟩
                    obtain ⟨N4, hN⟩ := Int.eq_ofNat_of_zero_le M4.1
                    rw [hN] at M4 K4 V4 ⊢
                    rw [Int.toNat_natCast] at K4
                    clear hN
                    generalize kHead s3 = t4 at hrw24 K4 V4
                    generalize hKL : kL k2 s3 = z4 at HS K4 u4
                    clear hKL
                    have hc : Fr (fun q => q = g ∨ q = gp) w17 w24 := hf.mono (fun q _ e => .inl e)
                    have bpw24 := bpw17.fr hf hpg
                    have lpsw24 := bpw24.lt
                    have brw24 := brw17.fr hc (fun h => h.elim hrg hrp)
                    have Fw24 := Fw17.trans hc
                    replace o1 := okH_fr ftRg o1 hc (fun b hb e => by have := q1 b hb; omega)
                    replace o2 := okH_fr ftPc o2 hc (fun b hb e => by have := q2 b hb; omega)
                    replace o3 := okH_fr ftPo o3 hc (fun b hb e => by have := q3 b hb; omega)
                    clear brw17 Fw17
                    clear hf hc hrw17 bpw17
                    go_wp2_with fail
                    go_loopw [15, 16] (fun ic _ wr => ∃ (v : Value) (k : Nat) (dn : List Sm) (sc : RS), k ≤ N4 ∧ ic = .int .i64 k ∧ dn.length = k ∧ wr.ownsRow w24.heap.size 137 2 v k (dn.flatMap rdSm.f) ∧ (∀ x ∈ dn, rdSm.ok wr x) ∧ (∀ x ∈ dn, ∀ b, ftSm.blk x b → w24.heap.size ≤ b ∧ v.ownBlock ≠ some b) ∧ RfSt wr g A n c l sc ∧ Blk wr gp 55 #[.slice n1.A n1.l.length n1.c, .slice n2.A n2.l.length n2.c, .slice n3.A n3.l.length n3.c, v, .int .i64 0, .slice none 0 0, .slice none 0 0, .int .i64 0, .int .i64 0, .int .i64 0, .slice none 0 0] ∧ Fr (fun q => q = g ∨ q = gp) w24 wr ∧ Hid (kRep k2 N4 t4 = kRep k2 (N4 - k) sc) ∧ Hid (sc.e = 0 → t4.e = 0 ∧ t4.l = dn.flatMap encSm ++ sc.l ∧ dn.any noB = false)) (fun ic _ _ => N4 - (intOf ic).toNat)
                    case atStart => exact ⟨_, 0, [], t4, Nat.zero_le _, rfl, rfl, World.ownsRow_nil _ _ _ _, (fun x h => by cases h), (fun x h => by cases h), hrw24, bpw24, Fr.refl _ _, by unfold Hid; simp, fun h => ⟨h, rfl, rfl⟩⟩
                    case round =>
                      obtain ⟨v, k, dn, s4, hk, rfl, hdl, hown, hok, hbl, hr, bp, hfw, HG, HC⟩ := hrel
                      obtain ⟨w25, hwo⟩ : ∃ w : World, w = wr := ⟨_, rfl⟩
                      subst hwo
                      have hsz := hfw.size
                      have hgw := hr.lt
                      have d2 : w25.cell? ⟨g, 2, none⟩ = some (.int .i64 s4.e) := by
                        obtain ⟨_, _, _, ra, rb, _⟩ := hr
                        exact rb.cell 2
                      go_upto_region 26 with fail
                      go_cut [117] from 108 to 130 (fun c wx => c = .bool (decide (k < N4 ∧ s4.e = 0)) ∧ w25 = wx)
                      case first =>
                        by_cases hlt : k < N4
                        · by_cases he : s4.e = 0
                          · have he' : (s4.e == 0) = true := by simpa using he
                            go_wp2_with fail
                            go_meet
                            exact ⟨by rw [decide_eq_true ⟨hlt, he⟩], rfl⟩
                          · have he' : (s4.e == 0) = false := by simpa using he
                            go_wp2_with fail
                            go_meet
                            exact ⟨by rw [decide_eq_false (fun h => he h.2)], rfl⟩
                        · go_wp2_with fail
                          go_meet
                          exact ⟨by rw [decide_eq_false (fun h => hlt h.1)], rfl⟩
                      case rest =>
                        obtain ⟨rfl, hwc⟩ := hcut
                        subst hwc
                        by_cases hlt : k < N4 ∧ s4.e = 0
                        · have _d := True.intro
                          have hd : decide (k < N4 ∧ s4.e = 0) = true := decide_eq_true hlt
                          obtain ⟨hlt, he⟩ := hlt
                          rw [hd]
                          clear hd d2
                          have HM : Hid (kRep k2 N4 t4 = kRep k2 (N4 - (k + 1)) (k2 s4)) := by
                            unfold Hid
                            rw [HG.out, show N4 - k = (N4 - (k + 1)) + 1 by omega, kRep_more he]
                          have HC2 := Lib.hid (HC.out he)
                          clear HG HC he
                          have HK : Hid (k2 s4 = (gInt (gInt s4).2).2) := rfl
                          go_wp2_with fail
                          refine (rrInt_any hr).mono ?_
                          rintro e w26 ⟨rfl, hrw26, hfw26⟩
                          have j0 := gInt_rng s4
                          have x0 := Lib.hid (gInt_inv (s := s4))
                          generalize (gInt s4).1 = y0 at x0 j0 ⊢
                          generalize (gInt s4).2 = s4x0 at hrw26 HK x0
                          have hfa := hfw26
                          go_wp2_with fail
                          have hvp : ¬ v.ownBlock = some gp := fun e => by have := (hown.lt gp e).1; omega
                          have hvg : ¬ v.ownBlock = some g := fun e => by have := (hown.lt g e).1; omega
                          have bpa := bp.fr hfa hpg
                          have pf : w26.cell? ⟨gp, 3, none⟩ = some v := bpa.cell 3
                          have lpa := bpa.lt
                          have hSp : ¬ (gp = g ∨ v.ownBlock = some gp) := fun h => h.elim hpg hvp
                          refine wp_region_fen (fun j => j = g ∨ v.ownBlock = some j) [(4, 0), (1, 0), (0, 0), (1, 2)] (by kernel_rfl) (by kernel_rfl) ?_
                          simp only [wpSegsF, List.take, List.drop]
                          repeat (go_big_quiet_step (fail))
                          refine wpQuiet_nil (wpHeadF_want rfl (fun K' hK' => ?_))
                          go_wp2_with fail
                          refine (rrInt_any (w := w26.drew) hrw26).mono ?_
                          rintro e w27 ⟨rfl, hrw27, hfw27⟩
                          have j1 := gInt_rng s4x0
                          have x1 := Lib.hid (gInt_inv (s := s4x0))
                          generalize (gInt s4x0).1 = y1 at x1 j1 ⊢
                          generalize (gInt s4x0).2 = s4x1 at hrw27 HK x1
                          replace hfw27 : Fr (fun q => q = g) w26 w27 := (Fr.drew (Fr.refl _ w26)).trans hfw27
                          replace hfa := hfa.trans hfw27
                          refine hK' _ _ rfl (fr_graft (hfw27.mono (fun q _ e => .inl e))) ?_
                          clear hK' K'
                          try simp only [List.take, List.drop]
                          repeat (go_big_quiet_step (fail))
                          refine wpQuiet_nil (wpHeadF_want rfl (fun K' hK' => ?_))
                          go_wp2_with fail
                          refine hK' _ _ rfl (fr_graft ((hfw27.mono (S' := fun q => q = g ∨ v.ownBlock = some q) (fun q _ e => .inl e)).alloc _)) ?_
                          clear hK' K'
                          try simp only [List.take, List.drop]
                          repeat (go_big_quiet_step (fail))
                          refine wpQuiet_nil (wpHeadF_want rfl (fun K' hK' => ?_))
                          have hownB := own_far hown hfa (fun q e => by omega)
                          have hzB := hfa.size
                          obtain ⟨i0, hi0, hz0, hz1, hz2⟩ := info_parts SmG_info
                          refine wp_app_blk _ _ _ 52 (by rfl) w24.heap.size 137 i0 _ 2 16 (by kernel_rfl) hi0 hz0 hz1 hz2 rfl (by decide) (by decide) v k _ (by rfl) (hownB.alloc _) w27.heap.size #[.int .i64 y0, .int .i64 y1] rfl (by simp [Value.oneCell']) (Blk.new _ _ _) (by rfl) (by omega) (by have := World.size_alloc w27 (.cells #[.int .i64 y0, .int .i64 y1] 137); omega) ?_
                          intro gg cap w28 hownC hfC hatC
                          replace hfC : Fr (fun q => v.ownBlock = some q) w27 w28 := ((Fr.refl _ w27).alloc _).trans hfC
                          rw [World.size_alloc] at hatC
                          refine hK' _ _ rfl (fr_graft ((hfw27.mono (S' := fun q => q = g ∨ v.ownBlock = some q) (fun q _ e => .inl e)).trans (hfC.mono (fun q _ e => .inr e)))) ?_
                          clear hK' K'
                          try simp only [List.take, List.drop]
                          simp only [Act.put, List.setIfInBounds_toArray, List.set_cons_succ, List.set_cons_zero]
                          repeat (go_big_quiet_step (fail))
                          have bpd := (bp.fr hfa hpg).fr hfC hvp
                          have pd : w28.cell? ⟨gp, 3, none⟩ = some v := bpd.cell 3
                          have fzd : ∀ i, w28.frozen? ⟨gp, i, none⟩ = false := bpd.frozen
                          have lpd := bpd.lt
                          refine wpQuiet_nil (wpHeadF_bar rfl (fun K' hK' => ?_))
                          go_wp2_with fail
                          refine hK' _ _ (fun _ => False) rfl ?_
                          clear hK' K'
                          try simp only [wpSegsF]
                          repeat (go_big_quiet_step (fail))
                          refine wpQuiet_nil ?_
                          have bpe : Blk (w28.setCell ⟨gp, 3, none⟩ (.slice (some ⟨gg, 0, none⟩) (k + 1) cap)) gp 55 #[.slice n1.A n1.l.length n1.c, .slice n2.A n2.l.length n2.c, .slice n3.A n3.l.length n3.c, .slice (some ⟨gg, 0, none⟩) (k + 1) cap, .int .i64 0, .slice none 0 0, .slice none 0 0, .int .i64 0, .int .i64 0, .int .i64 0, .slice none 0 0] := bpd.set_ 3 _
                          have hse : Fr (fun q => q = gp) w28 (w28.setCell ⟨gp, 3, none⟩ (.slice (some ⟨gg, 0, none⟩) (k + 1) cap)) := (Fr.refl (fun q => q = gp) w28).setCell (p := ⟨gp, 3, none⟩) (fun _ => rfl) _
                          have hre := (hrw27.fr hfC (fun q e => by have := (hownB.lt q e).1; omega)).fr hse (fun q e => by omega)
                          have hgge : w24.heap.size ≤ gg := (hownC.lt gg rfl).1
                          have howne := own_fr hownC hse (fun q _ e h => by cases e; omega)
                          generalize w28.setCell ⟨gp, 3, none⟩ (.slice (some ⟨gg, 0, none⟩) (k + 1) cap) = w29 at bpe hse hre howne ⊢
                          have hfe : Fr (fun q => q = g ∨ q = gp) w24 w29 := ((hfw.trans (hfa.mono (fun q _ e => .inl e))).trans' (hfC.mono (S' := fun q => v.ownBlock = some q) (fun q _ e => e)) (fun q hq e => by have := (hownB.lt q e).1; omega)).trans (hse.mono (fun q _ e => .inr e))
                          have HC4 : Hid (s4x1.e = 0 → t4.e = 0 ∧ t4.l = (dn ++ [(⟨y0, y1⟩ : Sm)]).flatMap encSm ++ s4x1.l ∧ (dn ++ [(⟨y0, y1⟩ : Sm)]).any noB = false) := fun he => by
                            obtain ⟨a1, l1⟩ := x1.out he
                            obtain ⟨a0, l0⟩ := x0.out a1
                            obtain ⟨c0, c1, c2⟩ := HC2.out
                            refine ⟨c0, ?_, ?_⟩
                            · rw [c1, List.flatMap_append, l0, l1]
                              simp only [List.flatMap_cons, List.flatMap_nil, List.append_nil, List.append_assoc, encSm, intsB_cons, intsB_nil, List.append_nil, List.append_assoc]
                            · rw [List.any_append, c2, List.any_cons]
                              rfl
                          rw [HK.out] at HM
                          have hok4 : ∀ x ∈ dn ++ [(⟨y0, y1⟩ : Sm)], rdSm.ok w29 x := fun x hx => by
                            rcases List.mem_append.1 hx with hx | hx
                            · exact hok x hx
                            · obtain rfl := List.mem_singleton.1 hx
                              exact ⟨j0, j1⟩
                          have hbl4 : ∀ x ∈ dn ++ [(⟨y0, y1⟩ : Sm)], ∀ b, ftSm.blk x b → w24.heap.size ≤ b ∧ (Value.slice (some ⟨gg, 0, none⟩) (k + 1) cap).ownBlock ≠ some b := fun x hx b hb => hb.elim
                          clear hownC hatC hownB
                          go_wp2_with fail
                          exact ⟨⟨_, k + 1, dn ++ [(⟨y0, y1⟩ : Sm)], s4x1, by omega, by go_num, by simp [hdl], by rw [List.flatMap_append]; simpa [rdSm, Sm.f, Hd.v] using howne, hok4, hbl4, hre, bpe, hfe, HM, HC4⟩, by simp [intOf]; omega⟩
                        · have hd : decide (k < N4 ∧ s4.e = 0) = false := decide_eq_false hlt
                          rw [hd]
                          clear hd d2
                          have HFIN : Hid (z4 = s4) := by
                            unfold Hid
                            rw [K4.out, HG.out]
                            by_cases hkn : k < N4
                            · exact kRep_err (fun h => hlt ⟨hkn, h⟩)
                            · rw [show N4 - k = 0 by omega]
                              rfl
                          have v4 : Hid (s4.e = 0 → s3.l = lst encSm dn ++ s4.l ∧ badL noB dn = false) := fun he => by
                            obtain ⟨c0, c1, c2⟩ := HC.out he
                            have hkn : k = N4 := by
                              by_cases hkn : k < N4
                              · exact absurd ⟨hkn, he⟩ hlt
                              · omega
                            refine ⟨?_, ?_⟩
                            · rw [V4.out c0, c1, ← hkn, ← hdl]
                              unfold lst
                              rw [List.append_assoc]
                            · unfold badL
                              rw [c2, hdl]
                              simp
                              omega
                          rw [HFIN.out] at HS u4
                          obtain ⟨A9, c9, hv9, hs9, hb9⟩ := SlG.of_own hown (fun x _ => rdSm.len x) hdl
                          rw [hv9] at bp
                          obtain ⟨n4, hn4⟩ : ∃ h : Hd Sm, h = ⟨A9, c9, dn⟩ := ⟨_, rfl⟩
                          have eA : A9 = n4.A := by rw [hn4]
                          have ec : c9 = n4.c := by rw [hn4]
                          have el : dn = n4.l := by rw [hn4]
                          have o4 : n4.ok rdSm w25 := by rw [hn4]; exact ⟨by rw [← hdl] at hs9; exact hs9, hok⟩
                          have q4 : ∀ b, blkH ftSm n4 b → gp < b ∧ g < b := fun b hb => by
                            rw [hn4] at hb
                            have h9 : w24.heap.size ≤ b := by
                              rcases hb with ⟨_, o, e⟩ | ⟨x, hx, hb⟩
                              · exact hb9 b o e
                              · exact (hbl x hx b hb).1
                            exact ⟨by omega, by omega⟩
                          rw [el] at v4 hdl
                          rw [eA, ec, ← hdl] at bp
                          clear hdl hn4 eA ec el hs9 hb9 hv9 hok hbl hown HG HC V4 K4 HFIN hlt
                          have hrw25 := hr
                          have bpw25 := bp
                          clear hr bp
                          have brw25 := brw24.fr hfw (fun h => h.elim hrg hrp)
                          have Fw25 := Fw24.trans hfw
                          replace o1 := okH_fr ftRg o1 hfw (fun b hb e => by have := q1 b hb; omega)
                          replace o2 := okH_fr ftPc o2 hfw (fun b hb e => by have := q2 b hb; omega)
                          replace o3 := okH_fr ftPo o3 hfw (fun b hb e => by have := q3 b hb; omega)
                          clear brw24 Fw24
                          clear hfw hrw24 bpw24 lpsw24 hsz hgw
                          go_wp2_with fail
                          refine (rrInt_any hrw25).mono ?_
                          rintro e w30 ⟨rfl, hrw30, hf⟩
                          have o5 := gInt_rng s4
                          have v5 := Lib.hid (gInt_inv (s := s4))
                          generalize (gInt s4).1 = n5 at o5 v5 ⊢
                          generalize (gInt s4).2 = s5 at hrw30 HS v5
                          have bpw30 := bpw25.fr hf hpg
                          have lp := bpw30.lt
                          have fz : ∀ i, w30.frozen? ⟨gp, i, none⟩ = false := bpw30.frozen
                          have pc0 : w30.cell? ⟨gp, 4, none⟩ = some (.int .i64 0) := bpw30.cell 4
                          go_wp2_with fail
                          have bpw31 : Blk (w30.setCell ⟨gp, 4, none⟩ (.int .i64 n5)) gp 55 #[.slice n1.A n1.l.length n1.c, .slice n2.A n2.l.length n2.c, .slice n3.A n3.l.length n3.c, .slice n4.A n4.l.length n4.c, .int .i64 n5, .slice none 0 0, .slice none 0 0, .int .i64 0, .int .i64 0, .int .i64 0, .slice none 0 0] := (bpw30.set_ 4 (.int .i64 n5))
                          have hs : Fr (fun q => q = gp) w30 (w30.setCell ⟨gp, 4, none⟩ (.int .i64 n5)) := ((Fr.refl (fun q => q = gp) w30).setCell (p := ⟨gp, 4, none⟩) (fun _ => rfl) _)
                          have hrw31 := hrw30.fr hs (fun q e => by omega)
                          generalize w30.setCell ⟨gp, 4, none⟩ (.int .i64 n5) = w31 at bpw31 hs hrw31 ⊢
                          have hc : Fr (fun q => q = g ∨ q = gp) w25 w31 := (hf.mono (fun q _ e => .inl e)).trans (hs.mono (fun q _ e => .inr e))
                          have brw31 := brw25.fr hc (fun h => h.elim hrg hrp)
                          have Fw31 := Fw25.trans hc
                          replace o1 := okH_fr ftRg o1 hc (fun b hb e => by have := q1 b hb; omega)
                          replace o2 := okH_fr ftPc o2 hc (fun b hb e => by have := q2 b hb; omega)
                          replace o3 := okH_fr ftPo o3 hc (fun b hb e => by have := q3 b hb; omega)
                          replace o4 := okH_fr ftSm o4 hc (fun b hb e => by have := q4 b hb; omega)
                          clear brw25 Fw25
                          clear hrw25 hrw30 bpw25 bpw30 hf hs hc lp fz pc0
                          have V6 := Lib.hid (kHead_v (s := s5))
                          have M6 := manyV_rng s5
                          have K6 := Lib.hid (kL_many k2 s5)
                          have u6 := Lib.hid (kL_stick (f := k2) (s := s5))
                          refine (rrMany_any hrw31).mono ?_
                          rintro e w32 ⟨rfl, hrw32, hf⟩
                          obtain ⟨N6, hN⟩ := Int.eq_ofNat_of_zero_le M6.1
                          rw [hN] at M6 K6 V6 ⊢
                          rw [Int.toNat_natCast] at K6
                          clear hN
                          generalize kHead s5 = t6 at hrw32 K6 V6
                          generalize hKL : kL k2 s5 = z6 at HS K6 u6
                          clear hKL
                          have hc : Fr (fun q => q = g ∨ q = gp) w31 w32 := hf.mono (fun q _ e => .inl e)
                          have bpw32 := bpw31.fr hf hpg
                          have lpsw32 := bpw32.lt
                          have brw32 := brw31.fr hc (fun h => h.elim hrg hrp)
                          have Fw32 := Fw31.trans hc
                          replace o1 := okH_fr ftRg o1 hc (fun b hb e => by have := q1 b hb; omega)
                          replace o2 := okH_fr ftPc o2 hc (fun b hb e => by have := q2 b hb; omega)
                          replace o3 := okH_fr ftPo o3 hc (fun b hb e => by have := q3 b hb; omega)
                          replace o4 := okH_fr ftSm o4 hc (fun b hb e => by have := q4 b hb; omega)
                          clear brw31 Fw31
                          clear hf hc hrw31 bpw31
                          go_wp2_with fail
                          go_loopw [17, 18] (fun ic _ wr => ∃ (v : Value) (k : Nat) (dn : List Pl) (sc : RS), k ≤ N6 ∧ ic = .int .i64 k ∧ dn.length = k ∧ wr.ownsRow w32.heap.size 142 2 v k (dn.flatMap rdPl.f) ∧ (∀ x ∈ dn, rdPl.ok wr x) ∧ (∀ x ∈ dn, ∀ b, ftPl.blk x b → w32.heap.size ≤ b ∧ v.ownBlock ≠ some b) ∧ RfSt wr g A n c l sc ∧ Blk wr gp 55 #[.slice n1.A n1.l.length n1.c, .slice n2.A n2.l.length n2.c, .slice n3.A n3.l.length n3.c, .slice n4.A n4.l.length n4.c, .int .i64 n5, v, .slice none 0 0, .int .i64 0, .int .i64 0, .int .i64 0, .slice none 0 0] ∧ Fr (fun q => q = g ∨ q = gp) w32 wr ∧ Hid (kRep k2 N6 t6 = kRep k2 (N6 - k) sc) ∧ Hid (sc.e = 0 → t6.e = 0 ∧ t6.l = dn.flatMap encPl ++ sc.l ∧ dn.any noB = false)) (fun ic _ _ => N6 - (intOf ic).toNat)
                          case atStart => exact ⟨_, 0, [], t6, Nat.zero_le _, rfl, rfl, World.ownsRow_nil _ _ _ _, (fun x h => by cases h), (fun x h => by cases h), hrw32, bpw32, Fr.refl _ _, by unfold Hid; simp, fun h => ⟨h, rfl, rfl⟩⟩
                          case round =>
                            obtain ⟨v, k, dn, s6, hk, rfl, hdl, hown, hok, hbl, hr, bp, hfw, HG, HC⟩ := hrel
                            obtain ⟨w33, hwo⟩ : ∃ w : World, w = wr := ⟨_, rfl⟩
                            subst hwo
                            have hsz := hfw.size
                            have hgw := hr.lt
                            have d2 : w33.cell? ⟨g, 2, none⟩ = some (.int .i64 s6.e) := by
                              obtain ⟨_, _, _, ra, rb, _⟩ := hr
                              exact rb.cell 2
                            go_upto_region 33 with fail
                            go_cut [145] from 136 to 158 (fun c wx => c = .bool (decide (k < N6 ∧ s6.e = 0)) ∧ w33 = wx)
                            case first =>
                              by_cases hlt : k < N6
                              · by_cases he : s6.e = 0
                                · have he' : (s6.e == 0) = true := by simpa using he
                                  go_wp2_with fail
                                  go_meet
                                  exact ⟨by rw [decide_eq_true ⟨hlt, he⟩], rfl⟩
                                · have he' : (s6.e == 0) = false := by simpa using he
                                  go_wp2_with fail
                                  go_meet
                                  exact ⟨by rw [decide_eq_false (fun h => he h.2)], rfl⟩
                              · go_wp2_with fail
                                go_meet
                                exact ⟨by rw [decide_eq_false (fun h => hlt h.1)], rfl⟩
                            case rest =>
                              obtain ⟨rfl, hwc⟩ := hcut
                              subst hwc
                              by_cases hlt : k < N6 ∧ s6.e = 0
                              · have _d := True.intro
                                have hd : decide (k < N6 ∧ s6.e = 0) = true := decide_eq_true hlt
                                obtain ⟨hlt, he⟩ := hlt
                                rw [hd]
                                clear hd d2
                                have HM : Hid (kRep k2 N6 t6 = kRep k2 (N6 - (k + 1)) (k2 s6)) := by
                                  unfold Hid
                                  rw [HG.out, show N6 - k = (N6 - (k + 1)) + 1 by omega, kRep_more he]
                                have HC2 := Lib.hid (HC.out he)
                                clear HG HC he
                                have HK : Hid (k2 s6 = (gInt (gInt s6).2).2) := rfl
                                go_wp2_with fail
                                refine (rrInt_any hr).mono ?_
                                rintro e w34 ⟨rfl, hrw34, hfw34⟩
                                have j0 := gInt_rng s6
                                have x0 := Lib.hid (gInt_inv (s := s6))
                                generalize (gInt s6).1 = y0 at x0 j0 ⊢
                                generalize (gInt s6).2 = s6x0 at hrw34 HK x0
                                have hfa := hfw34
                                go_wp2_with fail
                                have hvp : ¬ v.ownBlock = some gp := fun e => by have := (hown.lt gp e).1; omega
                                have hvg : ¬ v.ownBlock = some g := fun e => by have := (hown.lt g e).1; omega
                                have bpa := bp.fr hfa hpg
                                have pf : w34.cell? ⟨gp, 5, none⟩ = some v := bpa.cell 5
                                have lpa := bpa.lt
                                have hSp : ¬ (gp = g ∨ v.ownBlock = some gp) := fun h => h.elim hpg hvp
                                refine wp_region_fen (fun j => j = g ∨ v.ownBlock = some j) [(4, 0), (1, 0), (0, 0), (1, 2)] (by kernel_rfl) (by kernel_rfl) ?_
                                simp only [wpSegsF, List.take, List.drop]
                                repeat (go_big_quiet_step (fail))
                                refine wpQuiet_nil (wpHeadF_want rfl (fun K' hK' => ?_))
                                go_wp2_with fail
                                refine (rrInt_any (w := w34.drew) hrw34).mono ?_
                                rintro e w35 ⟨rfl, hrw35, hfw35⟩
                                have j1 := gInt_rng s6x0
                                have x1 := Lib.hid (gInt_inv (s := s6x0))
                                generalize (gInt s6x0).1 = y1 at x1 j1 ⊢
                                generalize (gInt s6x0).2 = s6x1 at hrw35 HK x1
                                replace hfw35 : Fr (fun q => q = g) w34 w35 := (Fr.drew (Fr.refl _ w34)).trans hfw35
                                replace hfa := hfa.trans hfw35
                                refine hK' _ _ rfl (fr_graft (hfw35.mono (fun q _ e => .inl e))) ?_
                                clear hK' K'
                                try simp only [List.take, List.drop]
                                repeat (go_big_quiet_step (fail))
                                refine wpQuiet_nil (wpHeadF_want rfl (fun K' hK' => ?_))
                                go_wp2_with fail
                                refine hK' _ _ rfl (fr_graft ((hfw35.mono (S' := fun q => q = g ∨ v.ownBlock = some q) (fun q _ e => .inl e)).alloc _)) ?_
                                clear hK' K'
                                try simp only [List.take, List.drop]
                                repeat (go_big_quiet_step (fail))
                                refine wpQuiet_nil (wpHeadF_want rfl (fun K' hK' => ?_))
                                have hownB := own_far hown hfa (fun q e => by omega)
                                have hzB := hfa.size
                                obtain ⟨i0, hi0, hz0, hz1, hz2⟩ := info_parts PlG_info
                                refine wp_app_blk _ _ _ 53 (by rfl) w32.heap.size 142 i0 _ 2 16 (by kernel_rfl) hi0 hz0 hz1 hz2 rfl (by decide) (by decide) v k _ (by rfl) (hownB.alloc _) w35.heap.size #[.int .i64 y0, .int .i64 y1] rfl (by simp [Value.oneCell']) (Blk.new _ _ _) (by rfl) (by omega) (by have := World.size_alloc w35 (.cells #[.int .i64 y0, .int .i64 y1] 142); omega) ?_
                                intro gg cap w36 hownC hfC hatC
                                replace hfC : Fr (fun q => v.ownBlock = some q) w35 w36 := ((Fr.refl _ w35).alloc _).trans hfC
                                rw [World.size_alloc] at hatC
                                refine hK' _ _ rfl (fr_graft ((hfw35.mono (S' := fun q => q = g ∨ v.ownBlock = some q) (fun q _ e => .inl e)).trans (hfC.mono (fun q _ e => .inr e)))) ?_
                                clear hK' K'
                                try simp only [List.take, List.drop]
                                simp only [Act.put, List.setIfInBounds_toArray, List.set_cons_succ, List.set_cons_zero]
                                repeat (go_big_quiet_step (fail))
                                have bpd := (bp.fr hfa hpg).fr hfC hvp
                                have pd : w36.cell? ⟨gp, 5, none⟩ = some v := bpd.cell 5
                                have fzd : ∀ i, w36.frozen? ⟨gp, i, none⟩ = false := bpd.frozen
                                have lpd := bpd.lt
                                refine wpQuiet_nil (wpHeadF_bar rfl (fun K' hK' => ?_))
                                go_wp2_with fail
                                refine hK' _ _ (fun _ => False) rfl ?_
                                clear hK' K'
                                try simp only [wpSegsF]
                                repeat (go_big_quiet_step (fail))
                                refine wpQuiet_nil ?_
                                have bpe : Blk (w36.setCell ⟨gp, 5, none⟩ (.slice (some ⟨gg, 0, none⟩) (k + 1) cap)) gp 55 #[.slice n1.A n1.l.length n1.c, .slice n2.A n2.l.length n2.c, .slice n3.A n3.l.length n3.c, .slice n4.A n4.l.length n4.c, .int .i64 n5, .slice (some ⟨gg, 0, none⟩) (k + 1) cap, .slice none 0 0, .int .i64 0, .int .i64 0, .int .i64 0, .slice none 0 0] := bpd.set_ 5 _
                                have hse : Fr (fun q => q = gp) w36 (w36.setCell ⟨gp, 5, none⟩ (.slice (some ⟨gg, 0, none⟩) (k + 1) cap)) := (Fr.refl (fun q => q = gp) w36).setCell (p := ⟨gp, 5, none⟩) (fun _ => rfl) _
                                have hre := (hrw35.fr hfC (fun q e => by have := (hownB.lt q e).1; omega)).fr hse (fun q e => by omega)
                                have hgge : w32.heap.size ≤ gg := (hownC.lt gg rfl).1
                                have howne := own_fr hownC hse (fun q _ e h => by cases e; omega)
                                generalize w36.setCell ⟨gp, 5, none⟩ (.slice (some ⟨gg, 0, none⟩) (k + 1) cap) = w37 at bpe hse hre howne ⊢
                                have hfe : Fr (fun q => q = g ∨ q = gp) w32 w37 := ((hfw.trans (hfa.mono (fun q _ e => .inl e))).trans' (hfC.mono (S' := fun q => v.ownBlock = some q) (fun q _ e => e)) (fun q hq e => by have := (hownB.lt q e).1; omega)).trans (hse.mono (fun q _ e => .inr e))
                                have HC4 : Hid (s6x1.e = 0 → t6.e = 0 ∧ t6.l = (dn ++ [(⟨y0, y1⟩ : Pl)]).flatMap encPl ++ s6x1.l ∧ (dn ++ [(⟨y0, y1⟩ : Pl)]).any noB = false) := fun he => by
                                  obtain ⟨a1, l1⟩ := x1.out he
                                  obtain ⟨a0, l0⟩ := x0.out a1
                                  obtain ⟨c0, c1, c2⟩ := HC2.out
                                  refine ⟨c0, ?_, ?_⟩
                                  · rw [c1, List.flatMap_append, l0, l1]
                                    simp only [List.flatMap_cons, List.flatMap_nil, List.append_nil, List.append_assoc, encPl, intsB_cons, intsB_nil, List.append_nil, List.append_assoc]
                                  · rw [List.any_append, c2, List.any_cons]
                                    rfl
                                rw [HK.out] at HM
                                have hok4 : ∀ x ∈ dn ++ [(⟨y0, y1⟩ : Pl)], rdPl.ok w37 x := fun x hx => by
                                  rcases List.mem_append.1 hx with hx | hx
                                  · exact hok x hx
                                  · obtain rfl := List.mem_singleton.1 hx
                                    exact ⟨j0, j1⟩
                                have hbl4 : ∀ x ∈ dn ++ [(⟨y0, y1⟩ : Pl)], ∀ b, ftPl.blk x b → w32.heap.size ≤ b ∧ (Value.slice (some ⟨gg, 0, none⟩) (k + 1) cap).ownBlock ≠ some b := fun x hx b hb => hb.elim
                                clear hownC hatC hownB
                                go_wp2_with fail
                                exact ⟨⟨_, k + 1, dn ++ [(⟨y0, y1⟩ : Pl)], s6x1, by omega, by go_num, by simp [hdl], by rw [List.flatMap_append]; simpa [rdPl, Pl.f, Hd.v] using howne, hok4, hbl4, hre, bpe, hfe, HM, HC4⟩, by simp [intOf]; omega⟩
                              · have hd : decide (k < N6 ∧ s6.e = 0) = false := decide_eq_false hlt
                                rw [hd]
                                clear hd d2
                                have HFIN : Hid (z6 = s6) := by
                                  unfold Hid
                                  rw [K6.out, HG.out]
                                  by_cases hkn : k < N6
                                  · exact kRep_err (fun h => hlt ⟨hkn, h⟩)
                                  · rw [show N6 - k = 0 by omega]
                                    rfl
                                have v6 : Hid (s6.e = 0 → s5.l = lst encPl dn ++ s6.l ∧ badL noB dn = false) := fun he => by
                                  obtain ⟨c0, c1, c2⟩ := HC.out he
                                  have hkn : k = N6 := by
                                    by_cases hkn : k < N6
                                    · exact absurd ⟨hkn, he⟩ hlt
                                    · omega
                                  refine ⟨?_, ?_⟩
                                  · rw [V6.out c0, c1, ← hkn, ← hdl]
                                    unfold lst
                                    rw [List.append_assoc]
                                  · unfold badL
                                    rw [c2, hdl]
                                    simp
                                    omega
                                rw [HFIN.out] at HS u6
                                obtain ⟨A9, c9, hv9, hs9, hb9⟩ := SlG.of_own hown (fun x _ => rdPl.len x) hdl
                                rw [hv9] at bp
                                obtain ⟨n6, hn6⟩ : ∃ h : Hd Pl, h = ⟨A9, c9, dn⟩ := ⟨_, rfl⟩
                                have eA : A9 = n6.A := by rw [hn6]
                                have ec : c9 = n6.c := by rw [hn6]
                                have el : dn = n6.l := by rw [hn6]
                                have o6 : n6.ok rdPl w33 := by rw [hn6]; exact ⟨by rw [← hdl] at hs9; exact hs9, hok⟩
                                have q6 : ∀ b, blkH ftPl n6 b → gp < b ∧ g < b := fun b hb => by
                                  rw [hn6] at hb
                                  have h9 : w32.heap.size ≤ b := by
                                    rcases hb with ⟨_, o, e⟩ | ⟨x, hx, hb⟩
                                    · exact hb9 b o e
                                    · exact (hbl x hx b hb).1
                                  exact ⟨by omega, by omega⟩
                                rw [el] at v6 hdl
                                rw [eA, ec, ← hdl] at bp
                                clear hdl hn6 eA ec el hs9 hb9 hv9 hok hbl hown HG HC V6 K6 HFIN hlt
                                have hrw33 := hr
                                have bpw33 := bp
                                clear hr bp
                                have brw33 := brw32.fr hfw (fun h => h.elim hrg hrp)
                                have Fw33 := Fw32.trans hfw
                                replace o1 := okH_fr ftRg o1 hfw (fun b hb e => by have := q1 b hb; omega)
                                replace o2 := okH_fr ftPc o2 hfw (fun b hb e => by have := q2 b hb; omega)
                                replace o3 := okH_fr ftPo o3 hfw (fun b hb e => by have := q3 b hb; omega)
                                replace o4 := okH_fr ftSm o4 hfw (fun b hb e => by have := q4 b hb; omega)
                                clear brw32 Fw32
                                clear hfw hrw32 bpw32 lpsw32 hsz hgw
                                go_wp2_with fail
                                refine (rrInts_any hrw33).mono ?_
                                rintro e w38 ⟨n7, rfl, o7, q7, hrw38, hf, v7⟩
                                have u7 := Lib.hid (kL_stick (f := kI) (s := s6))
                                generalize kL kI s6 = s7 at hrw38 HS v7 u7
                                unfold Hd.v
                                have bpw38 := bpw33.fr hf hpg
                                have lp := bpw38.lt
                                have fz : ∀ i, w38.frozen? ⟨gp, i, none⟩ = false := bpw38.frozen
                                have pc0 : w38.cell? ⟨gp, 6, none⟩ = some (.slice none 0 0) := bpw38.cell 6
                                go_wp2_with fail
                                have bpw39 : Blk (w38.setCell ⟨gp, 6, none⟩ (.slice n7.A n7.l.length n7.c)) gp 55 #[.slice n1.A n1.l.length n1.c, .slice n2.A n2.l.length n2.c, .slice n3.A n3.l.length n3.c, .slice n4.A n4.l.length n4.c, .int .i64 n5, .slice n6.A n6.l.length n6.c, .slice n7.A n7.l.length n7.c, .int .i64 0, .int .i64 0, .int .i64 0, .slice none 0 0] := (bpw38.set_ 6 (.slice n7.A n7.l.length n7.c))
                                have hs : Fr (fun q => q = gp) w38 (w38.setCell ⟨gp, 6, none⟩ (.slice n7.A n7.l.length n7.c)) := ((Fr.refl (fun q => q = gp) w38).setCell (p := ⟨gp, 6, none⟩) (fun _ => rfl) _)
                                have hrw39 := hrw38.fr hs (fun q e => by omega)
                                generalize w38.setCell ⟨gp, 6, none⟩ (.slice n7.A n7.l.length n7.c) = w39 at bpw39 hs hrw39 ⊢
                                have hc : Fr (fun q => q = g ∨ q = gp) w33 w39 := (hf.mono (fun q _ e => .inl e)).trans (hs.mono (fun q _ e => .inr e))
                                have brw39 := brw33.fr hc (fun h => h.elim hrg hrp)
                                have Fw39 := Fw33.trans hc
                                replace o1 := okH_fr ftRg o1 hc (fun b hb e => by have := q1 b hb; omega)
                                replace o2 := okH_fr ftPc o2 hc (fun b hb e => by have := q2 b hb; omega)
                                replace o3 := okH_fr ftPo o3 hc (fun b hb e => by have := q3 b hb; omega)
                                replace o4 := okH_fr ftSm o4 hc (fun b hb e => by have := q4 b hb; omega)
                                replace o6 := okH_fr ftPl o6 hc (fun b hb e => by have := q6 b hb; omega)
                                clear brw33 Fw33
                                replace o7 := ftInts.fr o7 hs (fun b hb e => by have := q7 b hb; have := bpw33.lt; omega)
                                replace q7 : ∀ b, ftInts.blk n7 b → gp < b ∧ g < b := fun b hb => by have := q7 b hb; have := bpw33.lt; exact ⟨by omega, by omega⟩
                                clear hrw33 hrw38 bpw33 bpw38 hf hs hc lp fz pc0
                                refine (rrInt_any hrw39).mono ?_
                                rintro e w40 ⟨rfl, hrw40, hf⟩
                                have o8 := gInt_rng s7
                                have v8 := Lib.hid (gInt_inv (s := s7))
                                generalize (gInt s7).1 = n8 at o8 v8 ⊢
                                generalize (gInt s7).2 = s8 at hrw40 HS v8
                                have bpw40 := bpw39.fr hf hpg
                                have lp := bpw40.lt
                                have fz : ∀ i, w40.frozen? ⟨gp, i, none⟩ = false := bpw40.frozen
                                have pc0 : w40.cell? ⟨gp, 7, none⟩ = some (.int .i64 0) := bpw40.cell 7
                                go_wp2_with fail
                                have bpw41 : Blk (w40.setCell ⟨gp, 7, none⟩ (.int .i64 n8)) gp 55 #[.slice n1.A n1.l.length n1.c, .slice n2.A n2.l.length n2.c, .slice n3.A n3.l.length n3.c, .slice n4.A n4.l.length n4.c, .int .i64 n5, .slice n6.A n6.l.length n6.c, .slice n7.A n7.l.length n7.c, .int .i64 n8, .int .i64 0, .int .i64 0, .slice none 0 0] := (bpw40.set_ 7 (.int .i64 n8))
                                have hs : Fr (fun q => q = gp) w40 (w40.setCell ⟨gp, 7, none⟩ (.int .i64 n8)) := ((Fr.refl (fun q => q = gp) w40).setCell (p := ⟨gp, 7, none⟩) (fun _ => rfl) _)
                                have hrw41 := hrw40.fr hs (fun q e => by omega)
                                generalize w40.setCell ⟨gp, 7, none⟩ (.int .i64 n8) = w41 at bpw41 hs hrw41 ⊢
                                have hc : Fr (fun q => q = g ∨ q = gp) w39 w41 := (hf.mono (fun q _ e => .inl e)).trans (hs.mono (fun q _ e => .inr e))
                                have brw41 := brw39.fr hc (fun h => h.elim hrg hrp)
                                have Fw41 := Fw39.trans hc
                                replace o1 := okH_fr ftRg o1 hc (fun b hb e => by have := q1 b hb; omega)
                                replace o2 := okH_fr ftPc o2 hc (fun b hb e => by have := q2 b hb; omega)
                                replace o3 := okH_fr ftPo o3 hc (fun b hb e => by have := q3 b hb; omega)
                                replace o4 := okH_fr ftSm o4 hc (fun b hb e => by have := q4 b hb; omega)
                                replace o6 := okH_fr ftPl o6 hc (fun b hb e => by have := q6 b hb; omega)
                                replace o7 := ftInts.fr o7 hc (fun b hb e => by have := q7 b hb; omega)
                                clear brw39 Fw39
                                clear hrw39 hrw40 bpw39 bpw40 hf hs hc lp fz pc0
                                refine (rrInt_any hrw41).mono ?_
                                rintro e w42 ⟨rfl, hrw42, hf⟩
                                have o9 := gInt_rng s8
                                have v9 := Lib.hid (gInt_inv (s := s8))
                                generalize (gInt s8).1 = n9 at o9 v9 ⊢
                                generalize (gInt s8).2 = s9 at hrw42 HS v9
                                have bpw42 := bpw41.fr hf hpg
                                have lp := bpw42.lt
                                have fz : ∀ i, w42.frozen? ⟨gp, i, none⟩ = false := bpw42.frozen
                                have pc0 : w42.cell? ⟨gp, 8, none⟩ = some (.int .i64 0) := bpw42.cell 8
                                go_wp2_with fail
                                have bpw43 : Blk (w42.setCell ⟨gp, 8, none⟩ (.int .i64 n9)) gp 55 #[.slice n1.A n1.l.length n1.c, .slice n2.A n2.l.length n2.c, .slice n3.A n3.l.length n3.c, .slice n4.A n4.l.length n4.c, .int .i64 n5, .slice n6.A n6.l.length n6.c, .slice n7.A n7.l.length n7.c, .int .i64 n8, .int .i64 n9, .int .i64 0, .slice none 0 0] := (bpw42.set_ 8 (.int .i64 n9))
                                have hs : Fr (fun q => q = gp) w42 (w42.setCell ⟨gp, 8, none⟩ (.int .i64 n9)) := ((Fr.refl (fun q => q = gp) w42).setCell (p := ⟨gp, 8, none⟩) (fun _ => rfl) _)
                                have hrw43 := hrw42.fr hs (fun q e => by omega)
                                generalize w42.setCell ⟨gp, 8, none⟩ (.int .i64 n9) = w43 at bpw43 hs hrw43 ⊢
                                have hc : Fr (fun q => q = g ∨ q = gp) w41 w43 := (hf.mono (fun q _ e => .inl e)).trans (hs.mono (fun q _ e => .inr e))
                                have brw43 := brw41.fr hc (fun h => h.elim hrg hrp)
                                have Fw43 := Fw41.trans hc
                                replace o1 := okH_fr ftRg o1 hc (fun b hb e => by have := q1 b hb; omega)
                                replace o2 := okH_fr ftPc o2 hc (fun b hb e => by have := q2 b hb; omega)
                                replace o3 := okH_fr ftPo o3 hc (fun b hb e => by have := q3 b hb; omega)
                                replace o4 := okH_fr ftSm o4 hc (fun b hb e => by have := q4 b hb; omega)
                                replace o6 := okH_fr ftPl o6 hc (fun b hb e => by have := q6 b hb; omega)
                                replace o7 := ftInts.fr o7 hc (fun b hb e => by have := q7 b hb; omega)
                                clear brw41 Fw41
                                clear hrw41 hrw42 bpw41 bpw42 hf hs hc lp fz pc0
                                refine (rrInt_any hrw43).mono ?_
                                rintro e w44 ⟨rfl, hrw44, hf⟩
                                have o10 := gInt_rng s9
                                have v10 := Lib.hid (gInt_inv (s := s9))
                                generalize (gInt s9).1 = n10 at o10 v10 ⊢
                                generalize (gInt s9).2 = s10 at hrw44 HS v10
                                have bpw44 := bpw43.fr hf hpg
                                have lp := bpw44.lt
                                have fz : ∀ i, w44.frozen? ⟨gp, i, none⟩ = false := bpw44.frozen
                                have pc0 : w44.cell? ⟨gp, 9, none⟩ = some (.int .i64 0) := bpw44.cell 9
                                go_wp2_with fail
                                have bpw45 : Blk (w44.setCell ⟨gp, 9, none⟩ (.int .i64 n10)) gp 55 #[.slice n1.A n1.l.length n1.c, .slice n2.A n2.l.length n2.c, .slice n3.A n3.l.length n3.c, .slice n4.A n4.l.length n4.c, .int .i64 n5, .slice n6.A n6.l.length n6.c, .slice n7.A n7.l.length n7.c, .int .i64 n8, .int .i64 n9, .int .i64 n10, .slice none 0 0] := (bpw44.set_ 9 (.int .i64 n10))
                                have hs : Fr (fun q => q = gp) w44 (w44.setCell ⟨gp, 9, none⟩ (.int .i64 n10)) := ((Fr.refl (fun q => q = gp) w44).setCell (p := ⟨gp, 9, none⟩) (fun _ => rfl) _)
                                have hrw45 := hrw44.fr hs (fun q e => by omega)
                                generalize w44.setCell ⟨gp, 9, none⟩ (.int .i64 n10) = w45 at bpw45 hs hrw45 ⊢
                                have hc : Fr (fun q => q = g ∨ q = gp) w43 w45 := (hf.mono (fun q _ e => .inl e)).trans (hs.mono (fun q _ e => .inr e))
                                have brw45 := brw43.fr hc (fun h => h.elim hrg hrp)
                                have Fw45 := Fw43.trans hc
                                replace o1 := okH_fr ftRg o1 hc (fun b hb e => by have := q1 b hb; omega)
                                replace o2 := okH_fr ftPc o2 hc (fun b hb e => by have := q2 b hb; omega)
                                replace o3 := okH_fr ftPo o3 hc (fun b hb e => by have := q3 b hb; omega)
                                replace o4 := okH_fr ftSm o4 hc (fun b hb e => by have := q4 b hb; omega)
                                replace o6 := okH_fr ftPl o6 hc (fun b hb e => by have := q6 b hb; omega)
                                replace o7 := ftInts.fr o7 hc (fun b hb e => by have := q7 b hb; omega)
                                clear brw43 Fw43
                                clear hrw43 hrw44 bpw43 bpw44 hf hs hc lp fz pc0
                                refine (rrInts_any hrw45).mono ?_
                                rintro e w46 ⟨n11, rfl, o11, q11, hrw46, hf, v11⟩
                                have u11 := Lib.hid (kL_stick (f := kI) (s := s10))
                                generalize kL kI s10 = s11 at hrw46 HS v11 u11
                                unfold Hd.v
                                have bpw46 := bpw45.fr hf hpg
                                have lp := bpw46.lt
                                have fz : ∀ i, w46.frozen? ⟨gp, i, none⟩ = false := bpw46.frozen
                                have pc0 : w46.cell? ⟨gp, 10, none⟩ = some (.slice none 0 0) := bpw46.cell 10
                                go_upto_region 42 with fail
                                have bpw47 : Blk (w46.setCell ⟨gp, 10, none⟩ (.slice n11.A n11.l.length n11.c)) gp 55 #[.slice n1.A n1.l.length n1.c, .slice n2.A n2.l.length n2.c, .slice n3.A n3.l.length n3.c, .slice n4.A n4.l.length n4.c, .int .i64 n5, .slice n6.A n6.l.length n6.c, .slice n7.A n7.l.length n7.c, .int .i64 n8, .int .i64 n9, .int .i64 n10, .slice n11.A n11.l.length n11.c] := (bpw46.set_ 10 (.slice n11.A n11.l.length n11.c))
                                have hs : Fr (fun q => q = gp) w46 (w46.setCell ⟨gp, 10, none⟩ (.slice n11.A n11.l.length n11.c)) := ((Fr.refl (fun q => q = gp) w46).setCell (p := ⟨gp, 10, none⟩) (fun _ => rfl) _)
                                have hrw47 := hrw46.fr hs (fun q e => by omega)
                                generalize w46.setCell ⟨gp, 10, none⟩ (.slice n11.A n11.l.length n11.c) = w47 at bpw47 hs hrw47 ⊢
                                have hc : Fr (fun q => q = g ∨ q = gp) w45 w47 := (hf.mono (fun q _ e => .inl e)).trans (hs.mono (fun q _ e => .inr e))
                                have brw47 := brw45.fr hc (fun h => h.elim hrg hrp)
                                have Fw47 := Fw45.trans hc
                                replace o1 := okH_fr ftRg o1 hc (fun b hb e => by have := q1 b hb; omega)
                                replace o2 := okH_fr ftPc o2 hc (fun b hb e => by have := q2 b hb; omega)
                                replace o3 := okH_fr ftPo o3 hc (fun b hb e => by have := q3 b hb; omega)
                                replace o4 := okH_fr ftSm o4 hc (fun b hb e => by have := q4 b hb; omega)
                                replace o6 := okH_fr ftPl o6 hc (fun b hb e => by have := q6 b hb; omega)
                                replace o7 := ftInts.fr o7 hc (fun b hb e => by have := q7 b hb; omega)
                                clear brw45 Fw45
                                replace o11 := ftInts.fr o11 hs (fun b hb e => by have := q11 b hb; have := bpw45.lt; omega)
                                replace q11 : ∀ b, ftInts.blk n11 b → gp < b ∧ g < b := fun b hb => by have := q11 b hb; have := bpw45.lt; exact ⟨by omega, by omega⟩
                                clear hrw45 hrw46 bpw45 bpw46 hf hs hc lp fz pc0
                                have pc0 : w47.cell? ⟨gp, 0, none⟩ = some (.slice n1.A n1.l.length n1.c) := bpw47.cell 0
                                have pc1 : w47.cell? ⟨gp, 1, none⟩ = some (.slice n2.A n2.l.length n2.c) := bpw47.cell 1
                                have pc2 : w47.cell? ⟨gp, 2, none⟩ = some (.slice n3.A n3.l.length n3.c) := bpw47.cell 2
                                have pc3 : w47.cell? ⟨gp, 3, none⟩ = some (.slice n4.A n4.l.length n4.c) := bpw47.cell 3
                                have pc4 : w47.cell? ⟨gp, 4, none⟩ = some (.int .i64 n5) := bpw47.cell 4
                                have pc5 : w47.cell? ⟨gp, 5, none⟩ = some (.slice n6.A n6.l.length n6.c) := bpw47.cell 5
                                have pc6 : w47.cell? ⟨gp, 6, none⟩ = some (.slice n7.A n7.l.length n7.c) := bpw47.cell 6
                                have pc7 : w47.cell? ⟨gp, 7, none⟩ = some (.int .i64 n8) := bpw47.cell 7
                                have pc8 : w47.cell? ⟨gp, 8, none⟩ = some (.int .i64 n9) := bpw47.cell 8
                                have pc9 : w47.cell? ⟨gp, 9, none⟩ = some (.int .i64 n10) := bpw47.cell 9
                                have pc10 : w47.cell? ⟨gp, 10, none⟩ = some (.slice n11.A n11.l.length n11.c) := bpw47.cell 10
                                have z0 : w47.cell? ⟨gr, 0, none⟩ = some (.slice none 0 0) := brw47.cell 0
                                have z1 : w47.cell? ⟨gr, 1, none⟩ = some (.slice none 0 0) := brw47.cell 1
                                have z2 : w47.cell? ⟨gr, 2, none⟩ = some (.slice none 0 0) := brw47.cell 2
                                have z3 : w47.cell? ⟨gr, 3, none⟩ = some (.slice none 0 0) := brw47.cell 3
                                have z4 : w47.cell? ⟨gr, 4, none⟩ = some (.int .i64 0) := brw47.cell 4
                                have z5 : w47.cell? ⟨gr, 5, none⟩ = some (.slice none 0 0) := brw47.cell 5
                                have z6 : w47.cell? ⟨gr, 6, none⟩ = some (.slice none 0 0) := brw47.cell 6
                                have z7 : w47.cell? ⟨gr, 7, none⟩ = some (.int .i64 0) := brw47.cell 7
                                have z8 : w47.cell? ⟨gr, 8, none⟩ = some (.int .i64 0) := brw47.cell 8
                                have z9 : w47.cell? ⟨gr, 9, none⟩ = some (.int .i64 0) := brw47.cell 9
                                have z10 : w47.cell? ⟨gr, 10, none⟩ = some (.slice none 0 0) := brw47.cell 10
                                have lp := bpw47.lt
                                have lr := brw47.lt
                                have fz : ∀ i, w47.frozen? ⟨gr, i, none⟩ = false := brw47.frozen
                                go_wp2_with fail
                                have rK : Blk (setRow w47 gr 0 [.slice n1.A n1.l.length n1.c, .slice n2.A n2.l.length n2.c, .slice n3.A n3.l.length n3.c, .slice n4.A n4.l.length n4.c, .int .i64 n5, .slice n6.A n6.l.length n6.c, .slice n7.A n7.l.length n7.c, .int .i64 n8, .int .i64 n9, .int .i64 n10, .slice n11.A n11.l.length n11.c]) gr 55 _ := Blk.row brw47 rfl
                                have rF : Fr (fun q => q = gr) w47 (setRow w47 gr 0 [.slice n1.A n1.l.length n1.c, .slice n2.A n2.l.length n2.c, .slice n3.A n3.l.length n3.c, .slice n4.A n4.l.length n4.c, .int .i64 n5, .slice n6.A n6.l.length n6.c, .slice n7.A n7.l.length n7.c, .int .i64 n8, .int .i64 n9, .int .i64 n10, .slice n11.A n11.l.length n11.c]) := Fr.row _ 0 (Fr.refl _ _) (fun _ => rfl)
                                simp only [setRow, Nat.zero_add, Nat.reduceAdd] at rK rF
                                generalize ((((((((((w47.setCell ⟨gr, 0, none⟩ (.slice n1.A n1.l.length n1.c)).setCell ⟨gr, 1, none⟩ (.slice n2.A n2.l.length n2.c)).setCell ⟨gr, 2, none⟩ (.slice n3.A n3.l.length n3.c)).setCell ⟨gr, 3, none⟩ (.slice n4.A n4.l.length n4.c)).setCell ⟨gr, 4, none⟩ (.int .i64 n5)).setCell ⟨gr, 5, none⟩ (.slice n6.A n6.l.length n6.c)).setCell ⟨gr, 6, none⟩ (.slice n7.A n7.l.length n7.c)).setCell ⟨gr, 7, none⟩ (.int .i64 n8)).setCell ⟨gr, 8, none⟩ (.int .i64 n9)).setCell ⟨gr, 9, none⟩ (.int .i64 n10)).setCell ⟨gr, 10, none⟩ (.slice n11.A n11.l.length n11.c) = w9 at rK rF ⊢
                                have y0 : w9.cell? ⟨gr, 0, none⟩ = some (.slice n1.A n1.l.length n1.c) := rK.cell 0
                                have y1 : w9.cell? ⟨gr, 1, none⟩ = some (.slice n2.A n2.l.length n2.c) := rK.cell 1
                                have y2 : w9.cell? ⟨gr, 2, none⟩ = some (.slice n3.A n3.l.length n3.c) := rK.cell 2
                                have y3 : w9.cell? ⟨gr, 3, none⟩ = some (.slice n4.A n4.l.length n4.c) := rK.cell 3
                                have y4 : w9.cell? ⟨gr, 4, none⟩ = some (.int .i64 n5) := rK.cell 4
                                have y5 : w9.cell? ⟨gr, 5, none⟩ = some (.slice n6.A n6.l.length n6.c) := rK.cell 5
                                have y6 : w9.cell? ⟨gr, 6, none⟩ = some (.slice n7.A n7.l.length n7.c) := rK.cell 6
                                have y7 : w9.cell? ⟨gr, 7, none⟩ = some (.int .i64 n8) := rK.cell 7
                                have y8 : w9.cell? ⟨gr, 8, none⟩ = some (.int .i64 n9) := rK.cell 8
                                have y9 : w9.cell? ⟨gr, 9, none⟩ = some (.int .i64 n10) := rK.cell 9
                                have y10 : w9.cell? ⟨gr, 10, none⟩ = some (.slice n11.A n11.l.length n11.c) := rK.cell 10
                                have hr9 := hrw47.fr rF (fun q hq => by omega)
                                have F9 : Fr (fun q => q = g) w w9 := ((Fr.of_below hb0 (fun q => q = g)).trans' Fw47 (fun q hq h => h.elim id (fun h => by omega))).trans' rF (fun q hq h => by omega)
                                replace o1 := okH_fr ftRg o1 rF (fun b hb e => by have := q1 b hb; omega)
                                replace o2 := okH_fr ftPc o2 rF (fun b hb e => by have := q2 b hb; omega)
                                replace o3 := okH_fr ftPo o3 rF (fun b hb e => by have := q3 b hb; omega)
                                replace o4 := okH_fr ftSm o4 rF (fun b hb e => by have := q4 b hb; omega)
                                replace o6 := okH_fr ftPl o6 rF (fun b hb e => by have := q6 b hb; omega)
                                replace o7 := ftInts.fr o7 rF (fun b hb e => by have := q7 b hb; omega)
                                replace o11 := ftInts.fr o11 rF (fun b hb e => by have := q11 b hb; omega)
                                have HE : Hid ((kPt s).e = 0 → s.l = encPt ⟨n1, n2, n3, n4, n5, n6, n7, n8, n9, n10, n11⟩ ++ (kPt s).l ∧ badPt (⟨n1, n2, n3, n4, n5, n6, n7, n8, n9, n10, n11⟩ : Pt) = false) := fun he => by
                                  rw [HS.out] at he ⊢
                                  obtain ⟨l11, d11⟩ := v11.out he
                                  have e11 := u11.out he
                                  obtain ⟨e10, l10⟩ := v10.out e11
                                  obtain ⟨e9, l9⟩ := v9.out e10
                                  obtain ⟨e8, l8⟩ := v8.out e9
                                  obtain ⟨l7, d7⟩ := v7.out e8
                                  have e7 := u7.out e8
                                  obtain ⟨l6, d6⟩ := v6.out e7
                                  have e6 := u6.out e7
                                  obtain ⟨e5, l5⟩ := v5.out e6
                                  obtain ⟨l4, d4⟩ := v4.out e5
                                  have e4 := u4.out e5
                                  obtain ⟨l3, d3⟩ := v3.out e4
                                  have e3 := u3.out e4
                                  obtain ⟨l2, d2⟩ := v2.out e3
                                  have e2 := u2.out e3
                                  obtain ⟨l1, d1⟩ := v1.out e2
                                  have e1 := u1.out e2
                                  refine ⟨?_, by unfold badPt; simp [d1, d2, d3, d4, d6, d7, d11]⟩
                                  rw [l1, l2, l3, l4, l5, l6, l7, l8, l9, l10, l11]
                                  unfold encPt
                                  simp only [intsB_cons, intsB_nil, List.append_assoc, List.append_nil]
                                rw [HS.out] at HE
                                try simp only [Exit.inBlock, Exit.then]
                                refine bodyPost_ret (v := .agg #[.slice n1.A n1.l.length n1.c, .slice n2.A n2.l.length n2.c, .slice n3.A n3.l.length n3.c, .slice n4.A n4.l.length n4.c, .int .i64 n5, .slice n6.A n6.l.length n6.c, .slice n7.A n7.l.length n7.c, .int .i64 n8, .int .i64 n9, .int .i64 n10, .slice n11.A n11.l.length n11.c]) (by simp [results, Tryz.results42, go_sem, y0, y1, y2, y3, y4, y5, y6, y7, y8, y9, y10]) rfl ?_
                                refine ⟨⟨n1, n2, n3, n4, n5, n6, n7, n8, n9, n10, n11⟩, rfl, ⟨o1, o2, o3, o4, o5, o6, o7, o8, o9, o10, o11⟩, fun b hb => ?_, by rw [HS.out]; exact hr9, F9, by rw [HS.out]; exact HE⟩
                                rcases hb with hb | hb | hb | hb | hb | hb | hb
                                · have := q1 b hb; omega
                                · have := q2 b hb; omega
                                · have := q3 b hb; omega
                                · have := q4 b hb; omega
                                · have := q6 b hb; omega
                                · have := q7 b hb; omega
                                · have := q11 b hb; omega
end Go.Proofs.YtahjnonkhbpnpaaGreat
