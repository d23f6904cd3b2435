/- Words and walks for the claims of this seat, merged: RrPower. -/
import Derived.Deep.DeepCutAuto
import Derived.Deep.CutRange
import Derived.Test.YtahjnonkhbpnpaaGreatCm10
import Derived.Test.YtahjnonkhbpnpaaGreatCm11
/- The document's reader of a configuration: power. Printed by wip/gen_rr.py. -/
namespace Go.Proofs.YtahjnonkhbpnpaaGreat
open Go.RowKit
set_option maxRecDepth 100000 in
set_option maxHeartbeats 12800000 in
theorem rr_Pw {w : World} {g n c : Nat} {A : Option Addr} {l : List UInt8} {s : RS} (h : RfSt w g A n c l s) : Calls Tryz.prog 45 #[.pointer (some ⟨g, 0, none⟩)] w fun e w' =>
    ∃ x : Pw, e = .returned x.v ∧ rdPw.ok w' x ∧ (∀ b, ftPw.blk x b → w.heap.size ≤ b) ∧ RfSt w' g A n c l (kPw s) ∧ Fr (fun q => q = g) w w' ∧ Hid ((kPw s).e = 0 → s.l = encPw x ++ (kPw s).l ∧ badPw x = false) := by
  have hgl := h.lt
  have hb0 := (Below.refl w.heap.size w).alloc (Nat.le_refl _) (.cells #[.slice none 0 0, .slice none 0 0, .int .i64 0, .int .i64 0, .int .i64 0, .int .i64 0, .int .i64 0, .int .i64 0] 28)
  have brw0 := Blk.new w 28 #[.slice none 0 0, .slice none 0 0, .int .i64 0, .int .i64 0, .int .i64 0, .int .i64 0, .int .i64 0, .int .i64 0]
  have hrw0 := h.keep hb0
  have HS : Hid (kPw s = (gInt (gInt (gInt (gInt (gInt (gInt (kL k3 (kL k2 s))).2).2).2).2).2).2) := rfl
  go_enter Tryz.func45, Tryz.ntmps45
  go_upto_region 1 with fail
  generalize w.alloc (.cells #[.slice none 0 0, .slice none 0 0, .int .i64 0, .int .i64 0, .int .i64 0, .int .i64 0, .int .i64 0, .int .i64 0] 28) = w0 at hb0 brw0 hrw0 ⊢
  obtain ⟨gr, hgw⟩ : ∃ gr, gr = w.heap.size := ⟨_, rfl⟩
  rw [← hgw] at brw0 ⊢
  have hrg : ¬ gr = g := by omega
  have hle : w.heap.size ≤ gr := Nat.le_of_eq hgw.symm
  have hl0 := brw0.lt
  clear hgw
  have hbp := (Below.refl w0.heap.size w0).alloc (Nat.le_refl _) (.cells #[.slice none 0 0, .slice none 0 0, .int .i64 0, .int .i64 0, .int .i64 0, .int .i64 0, .int .i64 0, .int .i64 0] 28)
  have bpw1 := Blk.new w0 28 #[.slice none 0 0, .slice none 0 0, .int .i64 0, .int .i64 0, .int .i64 0, .int .i64 0, .int .i64 0, .int .i64 0]
  have hrw1 := hrw0.keep hbp
  have brw1 := brw0.keep hbp
  go_upto_region 2 with fail
  generalize w0.alloc (.cells #[.slice none 0 0, .slice none 0 0, .int .i64 0, .int .i64 0, .int .i64 0, .int .i64 0, .int .i64 0, .int .i64 0] 28) = w1 at hbp bpw1 hrw1 brw1 ⊢
  obtain ⟨gp, hgp⟩ : ∃ gp, gp = w0.heap.size := ⟨_, rfl⟩
  rw [← hgp] at bpw1 ⊢
  have hpg : ¬ gp = g := by omega
  have hrp : ¬ gr = gp := by omega
  have hgg : g < gp := by omega
  have hlr : gr < gp := by omega
  have hpl : w0.heap.size ≤ gp := Nat.le_of_eq hgp.symm
  have Fw1 : Fr (fun q => q = g ∨ q = gp) w0 w1 := Fr.of_below hbp _
  clear hgp hrw0 brw0 hbp
  go_wp2_with fail
  have V1 := Lib.hid (kHead_v (s := s))
  have M1 := manyV_rng s
  have K1 := Lib.hid (kL_many k2 s)
  have u1 := Lib.hid (kL_stick (f := k2) (s := s))
  refine (rrMany_any hrw1).mono ?_
  rintro e w2 ⟨rfl, hrw2, hf⟩
  obtain ⟨N1, hN⟩ := Int.eq_ofNat_of_zero_le M1.1
  rw [hN] at M1 K1 V1 ⊢
  rw [Int.toNat_natCast] at K1
  clear hN
  generalize kHead s = t1 at hrw2 K1 V1
  generalize hKL : kL k2 s = z1 at HS K1 u1
  clear hKL
  have hc : Fr (fun q => q = g ∨ q = gp) w1 w2 := hf.mono (fun q _ e => .inl e)
  have bpw2 := bpw1.fr hf hpg
  have lpsw2 := bpw2.lt
  have brw2 := brw1.fr hc (fun h => h.elim hrg hrp)
  have Fw2 := Fw1.trans hc
  clear brw1 Fw1
  clear hf hc hrw1 bpw1
  go_wp2_with fail
  go_loopw [5, 6] (fun ic _ wr => ∃ (v : Value) (k : Nat) (dn : List Lv) (sc : RS), k ≤ N1 ∧ ic = .int .i64 k ∧ dn.length = k ∧ wr.ownsRow w2.heap.size 87 2 v k (dn.flatMap rdLv.f) ∧ (∀ x ∈ dn, rdLv.ok wr x) ∧ (∀ x ∈ dn, ∀ b, ftLv.blk x b → w2.heap.size ≤ b ∧ v.ownBlock ≠ some b) ∧ RfSt wr g A n c l sc ∧ Blk wr gp 28 #[v, .slice none 0 0, .int .i64 0, .int .i64 0, .int .i64 0, .int .i64 0, .int .i64 0, .int .i64 0] ∧ Fr (fun q => q = g ∨ q = gp) w2 wr ∧ Hid (kRep k2 N1 t1 = kRep k2 (N1 - k) sc) ∧ Hid (sc.e = 0 → t1.e = 0 ∧ t1.l = dn.flatMap encLv ++ sc.l ∧ dn.any noB = false)) (fun ic _ _ => N1 - (intOf ic).toNat)
  case atStart => exact ⟨_, 0, [], t1, Nat.zero_le _, rfl, rfl, World.ownsRow_nil _ _ _ _, (fun x h => by cases h), (fun x h => by cases h), hrw2, bpw2, Fr.refl _ _, by unfold Hid; simp, fun h => ⟨h, rfl, rfl⟩⟩
  case round =>
    obtain ⟨v, k, dn, s1, hk, rfl, hdl, hown, hok, hbl, hr, bp, hfw, HG, HC⟩ := hrel
    obtain ⟨w3, hwo⟩ : ∃ w : World, w = wr := ⟨_, rfl⟩
    subst hwo
    have hsz := hfw.size
    have hgw := hr.lt
    have d2 : w3.cell? ⟨g, 2, none⟩ = some (.int .i64 s1.e) := by
      obtain ⟨_, _, _, ra, rb, _⟩ := hr
      exact rb.cell 2
    go_upto_region 4 with fail
    go_cut [21] from 12 to 34 (fun c wx => c = .bool (decide (k < N1 ∧ s1.e = 0)) ∧ w3 = wx)
    case first =>
      by_cases hlt : k < N1
      · by_cases he : s1.e = 0
        · have he' : (s1.e == 0) = true := by simpa using he
          go_wp2_with fail
          go_meet
          exact ⟨by rw [decide_eq_true ⟨hlt, he⟩], rfl⟩
        · have he' : (s1.e == 0) = false := by simpa using he
          go_wp2_with fail
          go_meet
          exact ⟨by rw [decide_eq_false (fun h => he h.2)], rfl⟩
      · go_wp2_with fail
        go_meet
        exact ⟨by rw [decide_eq_false (fun h => hlt h.1)], rfl⟩
    case rest =>
      obtain ⟨rfl, hwc⟩ := hcut
      subst hwc
      by_cases hlt : k < N1 ∧ s1.e = 0
      · have _d := True.intro
        have hd : decide (k < N1 ∧ s1.e = 0) = true := decide_eq_true hlt
        obtain ⟨hlt, he⟩ := hlt
        rw [hd]
        clear hd d2
        have HM : Hid (kRep k2 N1 t1 = kRep k2 (N1 - (k + 1)) (k2 s1)) := by
          unfold Hid
          rw [HG.out, show N1 - k = (N1 - (k + 1)) + 1 by omega, kRep_more he]
        have HC2 := Lib.hid (HC.out he)
        clear HG HC he
        have HK : Hid (k2 s1 = (gInt (gInt s1).2).2) := rfl
        go_wp2_with fail
        refine (rrInt_any hr).mono ?_
        rintro e w4 ⟨rfl, hrw4, hfw4⟩
        have j0 := gInt_rng s1
        have x0 := Lib.hid (gInt_inv (s := s1))
        generalize (gInt s1).1 = y0 at x0 j0 ⊢
        generalize (gInt s1).2 = s1x0 at hrw4 HK x0
        have hfa := hfw4
        go_wp2_with fail
        have hvp : ¬ v.ownBlock = some gp := fun e => by have := (hown.lt gp e).1; omega
        have hvg : ¬ v.ownBlock = some g := fun e => by have := (hown.lt g e).1; omega
        have bpa := bp.fr hfa hpg
        have pf : w4.cell? ⟨gp, 0, none⟩ = some v := bpa.cell 0
        have lpa := bpa.lt
        have hSp : ¬ (gp = g ∨ v.ownBlock = some gp) := fun h => h.elim hpg hvp
        refine wp_region_fen (fun j => j = g ∨ v.ownBlock = some j) [(4, 0), (1, 0), (0, 0), (1, 2)] (by kernel_rfl) (by kernel_rfl) ?_
        simp only [wpSegsF, List.take, List.drop]
        repeat (go_big_quiet_step (fail))
        refine wpQuiet_nil (wpHeadF_want rfl (fun K' hK' => ?_))
        go_wp2_with fail
        refine (rrInt_any (w := w4.drew) hrw4).mono ?_
        rintro e w5 ⟨rfl, hrw5, hfw5⟩
        have j1 := gInt_rng s1x0
        have x1 := Lib.hid (gInt_inv (s := s1x0))
        generalize (gInt s1x0).1 = y1 at x1 j1 ⊢
        generalize (gInt s1x0).2 = s1x1 at hrw5 HK x1
        replace hfw5 : Fr (fun q => q = g) w4 w5 := (Fr.drew (Fr.refl _ w4)).trans hfw5
        replace hfa := hfa.trans hfw5
        refine hK' _ _ rfl (fr_graft (hfw5.mono (fun q _ e => .inl e))) ?_
        clear hK' K'
        try simp only [List.take, List.drop]
        repeat (go_big_quiet_step (fail))
        refine wpQuiet_nil (wpHeadF_want rfl (fun K' hK' => ?_))
        go_wp2_with fail
        refine hK' _ _ rfl (fr_graft ((hfw5.mono (S' := fun q => q = g ∨ v.ownBlock = some q) (fun q _ e => .inl e)).alloc _)) ?_
        clear hK' K'
        try simp only [List.take, List.drop]
        repeat (go_big_quiet_step (fail))
        refine wpQuiet_nil (wpHeadF_want rfl (fun K' hK' => ?_))
        have hownB := own_far hown hfa (fun q e => by omega)
        have hzB := hfa.size
        obtain ⟨i0, hi0, hz0, hz1, hz2⟩ := info_parts LvG_info
        refine wp_app_blk _ _ _ 25 (by rfl) w2.heap.size 87 i0 _ 2 16 (by kernel_rfl) hi0 hz0 hz1 hz2 rfl (by decide) (by decide) v k _ (by rfl) (hownB.alloc _) w5.heap.size #[.int .i64 y0, .int .i64 y1] rfl (by simp [Value.oneCell']) (Blk.new _ _ _) (by rfl) (by omega) (by have := World.size_alloc w5 (.cells #[.int .i64 y0, .int .i64 y1] 87); omega) ?_
        intro gg cap w6 hownC hfC hatC
        replace hfC : Fr (fun q => v.ownBlock = some q) w5 w6 := ((Fr.refl _ w5).alloc _).trans hfC
        rw [World.size_alloc] at hatC
        refine hK' _ _ rfl (fr_graft ((hfw5.mono (S' := fun q => q = g ∨ v.ownBlock = some q) (fun q _ e => .inl e)).trans (hfC.mono (fun q _ e => .inr e)))) ?_
        clear hK' K'
        try simp only [List.take, List.drop]
        simp only [Act.put, List.setIfInBounds_toArray, List.set_cons_succ, List.set_cons_zero]
        repeat (go_big_quiet_step (fail))
        have bpd := (bp.fr hfa hpg).fr hfC hvp
        have pd : w6.cell? ⟨gp, 0, none⟩ = some v := bpd.cell 0
        have fzd : ∀ i, w6.frozen? ⟨gp, i, none⟩ = false := bpd.frozen
        have lpd := bpd.lt
        refine wpQuiet_nil (wpHeadF_bar rfl (fun K' hK' => ?_))
        go_wp2_with fail
        refine hK' _ _ (fun _ => False) rfl ?_
        clear hK' K'
        try simp only [wpSegsF]
        repeat (go_big_quiet_step (fail))
        refine wpQuiet_nil ?_
        have bpe : Blk (w6.setCell ⟨gp, 0, none⟩ (.slice (some ⟨gg, 0, none⟩) (k + 1) cap)) gp 28 #[.slice (some ⟨gg, 0, none⟩) (k + 1) cap, .slice none 0 0, .int .i64 0, .int .i64 0, .int .i64 0, .int .i64 0, .int .i64 0, .int .i64 0] := bpd.set_ 0 _
        have hse : Fr (fun q => q = gp) w6 (w6.setCell ⟨gp, 0, none⟩ (.slice (some ⟨gg, 0, none⟩) (k + 1) cap)) := (Fr.refl (fun q => q = gp) w6).setCell (p := ⟨gp, 0, none⟩) (fun _ => rfl) _
        have hre := (hrw5.fr hfC (fun q e => by have := (hownB.lt q e).1; omega)).fr hse (fun q e => by omega)
        have hgge : w2.heap.size ≤ gg := (hownC.lt gg rfl).1
        have howne := own_fr hownC hse (fun q _ e h => by cases e; omega)
        generalize w6.setCell ⟨gp, 0, none⟩ (.slice (some ⟨gg, 0, none⟩) (k + 1) cap) = w7 at bpe hse hre howne ⊢
        have hfe : Fr (fun q => q = g ∨ q = gp) w2 w7 := ((hfw.trans (hfa.mono (fun q _ e => .inl e))).trans' (hfC.mono (S' := fun q => v.ownBlock = some q) (fun q _ e => e)) (fun q hq e => by have := (hownB.lt q e).1; omega)).trans (hse.mono (fun q _ e => .inr e))
        have HC4 : Hid (s1x1.e = 0 → t1.e = 0 ∧ t1.l = (dn ++ [(⟨y0, y1⟩ : Lv)]).flatMap encLv ++ s1x1.l ∧ (dn ++ [(⟨y0, y1⟩ : Lv)]).any noB = false) := fun he => by
          obtain ⟨a1, l1⟩ := x1.out he
          obtain ⟨a0, l0⟩ := x0.out a1
          obtain ⟨c0, c1, c2⟩ := HC2.out
          refine ⟨c0, ?_, ?_⟩
          · rw [c1, List.flatMap_append, l0, l1]
            simp only [List.flatMap_cons, List.flatMap_nil, List.append_nil, List.append_assoc, encLv, intsB_cons, intsB_nil, List.append_nil, List.append_assoc]
          · rw [List.any_append, c2, List.any_cons]
            rfl
        rw [HK.out] at HM
        have hok4 : ∀ x ∈ dn ++ [(⟨y0, y1⟩ : Lv)], rdLv.ok w7 x := fun x hx => by
          rcases List.mem_append.1 hx with hx | hx
          · exact hok x hx
          · obtain rfl := List.mem_singleton.1 hx
            exact ⟨j0, j1⟩
        have hbl4 : ∀ x ∈ dn ++ [(⟨y0, y1⟩ : Lv)], ∀ b, ftLv.blk x b → w2.heap.size ≤ b ∧ (Value.slice (some ⟨gg, 0, none⟩) (k + 1) cap).ownBlock ≠ some b := fun x hx b hb => hb.elim
        clear hownC hatC hownB
        go_wp2_with fail
        exact ⟨⟨_, k + 1, dn ++ [(⟨y0, y1⟩ : Lv)], s1x1, by omega, by go_num, by simp [hdl], by rw [List.flatMap_append]; simpa [rdLv, Lv.f, Hd.v] using howne, hok4, hbl4, hre, bpe, hfe, HM, HC4⟩, by simp [intOf]; omega⟩
      · have hd : decide (k < N1 ∧ s1.e = 0) = false := decide_eq_false hlt
        rw [hd]
        clear hd d2
        have HFIN : Hid (z1 = s1) := by
          unfold Hid
          rw [K1.out, HG.out]
          by_cases hkn : k < N1
          · exact kRep_err (fun h => hlt ⟨hkn, h⟩)
          · rw [show N1 - k = 0 by omega]
            rfl
        have v1 : Hid (s1.e = 0 → s.l = lst encLv dn ++ s1.l ∧ badL noB dn = false) := fun he => by
          obtain ⟨c0, c1, c2⟩ := HC.out he
          have hkn : k = N1 := by
            by_cases hkn : k < N1
            · exact absurd ⟨hkn, he⟩ hlt
            · omega
          refine ⟨?_, ?_⟩
          · rw [V1.out c0, c1, ← hkn, ← hdl]
            unfold lst
            rw [List.append_assoc]
          · unfold badL
            rw [c2, hdl]
            simp
            omega
        rw [HFIN.out] at HS u1
        obtain ⟨A9, c9, hv9, hs9, hb9⟩ := SlG.of_own hown (fun x _ => rdLv.len x) hdl
        rw [hv9] at bp
        obtain ⟨n1, hn1⟩ : ∃ h : Hd Lv, h = ⟨A9, c9, dn⟩ := ⟨_, rfl⟩
        have eA : A9 = n1.A := by rw [hn1]
        have ec : c9 = n1.c := by rw [hn1]
        have el : dn = n1.l := by rw [hn1]
        have o1 : n1.ok rdLv w3 := by rw [hn1]; exact ⟨by rw [← hdl] at hs9; exact hs9, hok⟩
        have q1 : ∀ b, blkH ftLv n1 b → gp < b ∧ g < b := fun b hb => by
          rw [hn1] at hb
          have h9 : w2.heap.size ≤ b := by
            rcases hb with ⟨_, o, e⟩ | ⟨x, hx, hb⟩
            · exact hb9 b o e
            · exact (hbl x hx b hb).1
          exact ⟨by omega, by omega⟩
        rw [el] at v1 hdl
        rw [eA, ec, ← hdl] at bp
        clear hdl hn1 eA ec el hs9 hb9 hv9 hok hbl hown HG HC V1 K1 HFIN hlt
        have hrw3 := hr
        have bpw3 := bp
        clear hr bp
        have brw3 := brw2.fr hfw (fun h => h.elim hrg hrp)
        have Fw3 := Fw2.trans hfw
        clear brw2 Fw2
        clear hfw hrw2 bpw2 lpsw2 hsz hgw
        go_wp2_with fail
        have V2 := Lib.hid (kHead_v (s := s1))
        have M2 := manyV_rng s1
        have K2 := Lib.hid (kL_many k3 s1)
        have u2 := Lib.hid (kL_stick (f := k3) (s := s1))
        refine (rrMany_any hrw3).mono ?_
        rintro e w8 ⟨rfl, hrw8, hf⟩
        obtain ⟨N2, hN⟩ := Int.eq_ofNat_of_zero_le M2.1
        rw [hN] at M2 K2 V2 ⊢
        rw [Int.toNat_natCast] at K2
        clear hN
        generalize kHead s1 = t2 at hrw8 K2 V2
        generalize hKL : kL k3 s1 = z2 at HS K2 u2
        clear hKL
        have hc : Fr (fun q => q = g ∨ q = gp) w3 w8 := hf.mono (fun q _ e => .inl e)
        have bpw8 := bpw3.fr hf hpg
        have lpsw8 := bpw8.lt
        have brw8 := brw3.fr hc (fun h => h.elim hrg hrp)
        have Fw8 := Fw3.trans hc
        replace o1 := okH_fr ftLv o1 hc (fun b hb e => by have := q1 b hb; omega)
        clear brw3 Fw3
        clear hf hc hrw3 bpw3
        go_wp2_with fail
        go_loopw [7, 8, 9] (fun ic _ _ wr => ∃ (v : Value) (k : Nat) (dn : List Np) (sc : RS), k ≤ N2 ∧ ic = .int .i64 k ∧ dn.length = k ∧ wr.ownsRow w8.heap.size 89 3 v k (dn.flatMap rdNp.f) ∧ (∀ x ∈ dn, rdNp.ok wr x) ∧ (∀ x ∈ dn, ∀ b, ftNp.blk x b → w8.heap.size ≤ b ∧ v.ownBlock ≠ some b) ∧ RfSt wr g A n c l sc ∧ Blk wr gp 28 #[.slice n1.A n1.l.length n1.c, v, .int .i64 0, .int .i64 0, .int .i64 0, .int .i64 0, .int .i64 0, .int .i64 0] ∧ Fr (fun q => q = g ∨ q = gp) w8 wr ∧ Hid (kRep k3 N2 t2 = kRep k3 (N2 - k) sc) ∧ Hid (sc.e = 0 → t2.e = 0 ∧ t2.l = dn.flatMap encNp ++ sc.l ∧ dn.any noB = false)) (fun ic _ _ _ => N2 - (intOf ic).toNat)
        case atStart => exact ⟨_, 0, [], t2, Nat.zero_le _, rfl, rfl, World.ownsRow_nil _ _ _ _, (fun x h => by cases h), (fun x h => by cases h), hrw8, bpw8, Fr.refl _ _, by unfold Hid; simp, fun h => ⟨h, rfl, rfl⟩⟩
        case round =>
          obtain ⟨v, k, dn, s2, hk, rfl, hdl, hown, hok, hbl, hr, bp, hfw, HG, HC⟩ := hrel
          obtain ⟨w9, hwo⟩ : ∃ w : World, w = wr := ⟨_, rfl⟩
          subst hwo
          have hsz := hfw.size
          have hgw := hr.lt
          have d2 : w9.cell? ⟨g, 2, none⟩ = some (.int .i64 s2.e) := by
            obtain ⟨_, _, _, ra, rb, _⟩ := hr
            exact rb.cell 2
          go_upto_region 10 with fail
          go_cut [46] from 37 to 62 (fun c wx => c = .bool (decide (k < N2 ∧ s2.e = 0)) ∧ w9 = wx)
          case first =>
            by_cases hlt : k < N2
            · by_cases he : s2.e = 0
              · have he' : (s2.e == 0) = true := by simpa using he
                go_wp2_with fail
                go_meet
                exact ⟨by rw [decide_eq_true ⟨hlt, he⟩], rfl⟩
              · have he' : (s2.e == 0) = false := by simpa using he
                go_wp2_with fail
                go_meet
                exact ⟨by rw [decide_eq_false (fun h => he h.2)], rfl⟩
            · go_wp2_with fail
              go_meet
              exact ⟨by rw [decide_eq_false (fun h => hlt h.1)], rfl⟩
          case rest =>
            obtain ⟨rfl, hwc⟩ := hcut
            subst hwc
            by_cases hlt : k < N2 ∧ s2.e = 0
            · have _d := True.intro
              have hd : decide (k < N2 ∧ s2.e = 0) = true := decide_eq_true hlt
              obtain ⟨hlt, he⟩ := hlt
              rw [hd]
              clear hd d2
              have HM : Hid (kRep k3 N2 t2 = kRep k3 (N2 - (k + 1)) (k3 s2)) := by
                unfold Hid
                rw [HG.out, show N2 - k = (N2 - (k + 1)) + 1 by omega, kRep_more he]
              have HC2 := Lib.hid (HC.out he)
              clear HG HC he
              have HK : Hid (k3 s2 = (gInt (gInt (gInt s2).2).2).2) := rfl
              go_wp2_with fail
              refine (rrInt_any hr).mono ?_
              rintro e w10 ⟨rfl, hrw10, hfw10⟩
              have j0 := gInt_rng s2
              have x0 := Lib.hid (gInt_inv (s := s2))
              generalize (gInt s2).1 = y0 at x0 j0 ⊢
              generalize (gInt s2).2 = s2x0 at hrw10 HK x0
              have hfa := hfw10
              go_wp2_with fail
              refine (rrInt_any hrw10).mono ?_
              rintro e w11 ⟨rfl, hrw11, hfw11⟩
              have j1 := gInt_rng s2x0
              have x1 := Lib.hid (gInt_inv (s := s2x0))
              generalize (gInt s2x0).1 = y1 at x1 j1 ⊢
              generalize (gInt s2x0).2 = s2x1 at hrw11 HK x1
              replace hfa := hfa.trans hfw11
              go_wp2_with fail
              have hvp : ¬ v.ownBlock = some gp := fun e => by have := (hown.lt gp e).1; omega
              have hvg : ¬ v.ownBlock = some g := fun e => by have := (hown.lt g e).1; omega
              have bpa := bp.fr hfa hpg
              have pf : w11.cell? ⟨gp, 1, none⟩ = some v := bpa.cell 1
              have lpa := bpa.lt
              have hSp : ¬ (gp = g ∨ v.ownBlock = some gp) := fun h => h.elim hpg hvp
              refine wp_region_fen (fun j => j = g ∨ v.ownBlock = some j) [(5, 0), (1, 0), (0, 0), (1, 2)] (by kernel_rfl) (by kernel_rfl) ?_
              simp only [wpSegsF, List.take, List.drop]
              repeat (go_big_quiet_step (fail))
              refine wpQuiet_nil (wpHeadF_want rfl (fun K' hK' => ?_))
              go_wp2_with fail
              refine (rrInt_any (w := w11.drew) hrw11).mono ?_
              rintro e w12 ⟨rfl, hrw12, hfw12⟩
              have j2 := gInt_rng s2x1
              have x2 := Lib.hid (gInt_inv (s := s2x1))
              generalize (gInt s2x1).1 = y2 at x2 j2 ⊢
              generalize (gInt s2x1).2 = s2x2 at hrw12 HK x2
              replace hfw12 : Fr (fun q => q = g) w11 w12 := (Fr.drew (Fr.refl _ w11)).trans hfw12
              replace hfa := hfa.trans hfw12
              refine hK' _ _ rfl (fr_graft (hfw12.mono (fun q _ e => .inl e))) ?_
              clear hK' K'
              try simp only [List.take, List.drop]
              repeat (go_big_quiet_step (fail))
              refine wpQuiet_nil (wpHeadF_want rfl (fun K' hK' => ?_))
              go_wp2_with fail
              refine hK' _ _ rfl (fr_graft ((hfw12.mono (S' := fun q => q = g ∨ v.ownBlock = some q) (fun q _ e => .inl e)).alloc _)) ?_
              clear hK' K'
              try simp only [List.take, List.drop]
              repeat (go_big_quiet_step (fail))
              refine wpQuiet_nil (wpHeadF_want rfl (fun K' hK' => ?_))
              have hownB := own_far hown hfa (fun q e => by omega)
              have hzB := hfa.size
              obtain ⟨i0, hi0, hz0, hz1, hz2⟩ := info_parts NpG_info
              refine wp_app_blk _ _ _ 26 (by rfl) w8.heap.size 89 i0 _ 3 24 (by kernel_rfl) hi0 hz0 hz1 hz2 rfl (by decide) (by decide) v k _ (by rfl) (hownB.alloc _) w12.heap.size #[.int .i64 y0, .int .i64 y1, .int .i64 y2] rfl (by simp [Value.oneCell']) (Blk.new _ _ _) (by rfl) (by omega) (by have := World.size_alloc w12 (.cells #[.int .i64 y0, .int .i64 y1, .int .i64 y2] 89); omega) ?_
              intro gg cap w13 hownC hfC hatC
              replace hfC : Fr (fun q => v.ownBlock = some q) w12 w13 := ((Fr.refl _ w12).alloc _).trans hfC
              rw [World.size_alloc] at hatC
              refine hK' _ _ rfl (fr_graft ((hfw12.mono (S' := fun q => q = g ∨ v.ownBlock = some q) (fun q _ e => .inl e)).trans (hfC.mono (fun q _ e => .inr e)))) ?_
              clear hK' K'
              try simp only [List.take, List.drop]
              simp only [Act.put, List.setIfInBounds_toArray, List.set_cons_succ, List.set_cons_zero]
              repeat (go_big_quiet_step (fail))
              have bpd := (bp.fr hfa hpg).fr hfC hvp
              have pd : w13.cell? ⟨gp, 1, none⟩ = some v := bpd.cell 1
              have fzd : ∀ i, w13.frozen? ⟨gp, i, none⟩ = false := bpd.frozen
              have lpd := bpd.lt
              refine wpQuiet_nil (wpHeadF_bar rfl (fun K' hK' => ?_))
              go_wp2_with fail
              refine hK' _ _ (fun _ => False) rfl ?_
              clear hK' K'
              try simp only [wpSegsF]
              repeat (go_big_quiet_step (fail))
              refine wpQuiet_nil ?_
              have bpe : Blk (w13.setCell ⟨gp, 1, none⟩ (.slice (some ⟨gg, 0, none⟩) (k + 1) cap)) gp 28 #[.slice n1.A n1.l.length n1.c, .slice (some ⟨gg, 0, none⟩) (k + 1) cap, .int .i64 0, .int .i64 0, .int .i64 0, .int .i64 0, .int .i64 0, .int .i64 0] := bpd.set_ 1 _
              have hse : Fr (fun q => q = gp) w13 (w13.setCell ⟨gp, 1, none⟩ (.slice (some ⟨gg, 0, none⟩) (k + 1) cap)) := (Fr.refl (fun q => q = gp) w13).setCell (p := ⟨gp, 1, none⟩) (fun _ => rfl) _
              have hre := (hrw12.fr hfC (fun q e => by have := (hownB.lt q e).1; omega)).fr hse (fun q e => by omega)
              have hgge : w8.heap.size ≤ gg := (hownC.lt gg rfl).1
              have howne := own_fr hownC hse (fun q _ e h => by cases e; omega)
              generalize w13.setCell ⟨gp, 1, none⟩ (.slice (some ⟨gg, 0, none⟩) (k + 1) cap) = w14 at bpe hse hre howne ⊢
              have hfe : Fr (fun q => q = g ∨ q = gp) w8 w14 := ((hfw.trans (hfa.mono (fun q _ e => .inl e))).trans' (hfC.mono (S' := fun q => v.ownBlock = some q) (fun q _ e => e)) (fun q hq e => by have := (hownB.lt q e).1; omega)).trans (hse.mono (fun q _ e => .inr e))
              have HC4 : Hid (s2x2.e = 0 → t2.e = 0 ∧ t2.l = (dn ++ [(⟨y0, y1, y2⟩ : Np)]).flatMap encNp ++ s2x2.l ∧ (dn ++ [(⟨y0, y1, y2⟩ : Np)]).any noB = false) := fun he => by
                obtain ⟨a2, l2⟩ := x2.out he
                obtain ⟨a1, l1⟩ := x1.out a2
                obtain ⟨a0, l0⟩ := x0.out a1
                obtain ⟨c0, c1, c2⟩ := HC2.out
                refine ⟨c0, ?_, ?_⟩
                · rw [c1, List.flatMap_append, l0, l1, l2]
                  simp only [List.flatMap_cons, List.flatMap_nil, List.append_nil, List.append_assoc, encNp, intsB_cons, intsB_nil, List.append_nil, List.append_assoc]
                · rw [List.any_append, c2, List.any_cons]
                  rfl
              rw [HK.out] at HM
              have hok4 : ∀ x ∈ dn ++ [(⟨y0, y1, y2⟩ : Np)], rdNp.ok w14 x := fun x hx => by
                rcases List.mem_append.1 hx with hx | hx
                · exact hok x hx
                · obtain rfl := List.mem_singleton.1 hx
                  exact ⟨j0, j1, j2⟩
              have hbl4 : ∀ x ∈ dn ++ [(⟨y0, y1, y2⟩ : Np)], ∀ b, ftNp.blk x b → w8.heap.size ≤ b ∧ (Value.slice (some ⟨gg, 0, none⟩) (k + 1) cap).ownBlock ≠ some b := fun x hx b hb => hb.elim
              clear hownC hatC hownB
              go_wp2_with fail
              exact ⟨⟨_, k + 1, dn ++ [(⟨y0, y1, y2⟩ : Np)], s2x2, by omega, by go_num, by simp [hdl], by rw [List.flatMap_append]; simpa [rdNp, Np.f, Hd.v] using howne, hok4, hbl4, hre, bpe, hfe, HM, HC4⟩, by simp [intOf]; omega⟩
            · have hd : decide (k < N2 ∧ s2.e = 0) = false := decide_eq_false hlt
              rw [hd]
              clear hd d2
              have HFIN : Hid (z2 = s2) := by
                unfold Hid
                rw [K2.out, HG.out]
                by_cases hkn : k < N2
                · exact kRep_err (fun h => hlt ⟨hkn, h⟩)
                · rw [show N2 - k = 0 by omega]
                  rfl
              have v2 : Hid (s2.e = 0 → s1.l = lst encNp dn ++ s2.l ∧ badL noB dn = false) := fun he => by
                obtain ⟨c0, c1, c2⟩ := HC.out he
                have hkn : k = N2 := by
                  by_cases hkn : k < N2
                  · exact absurd ⟨hkn, he⟩ hlt
                  · omega
                refine ⟨?_, ?_⟩
                · rw [V2.out c0, c1, ← hkn, ← hdl]
                  unfold lst
                  rw [List.append_assoc]
                · unfold badL
                  rw [c2, hdl]
                  simp
                  omega
              rw [HFIN.out] at HS u2
              obtain ⟨A9, c9, hv9, hs9, hb9⟩ := SlG.of_own hown (fun x _ => rdNp.len x) hdl
              rw [hv9] at bp
              obtain ⟨n2, hn2⟩ : ∃ h : Hd Np, h = ⟨A9, c9, dn⟩ := ⟨_, rfl⟩
              have eA : A9 = n2.A := by rw [hn2]
              have ec : c9 = n2.c := by rw [hn2]
              have el : dn = n2.l := by rw [hn2]
              have o2 : n2.ok rdNp w9 := by rw [hn2]; exact ⟨by rw [← hdl] at hs9; exact hs9, hok⟩
              have q2 : ∀ b, blkH ftNp n2 b → gp < b ∧ g < b := fun b hb => by
                rw [hn2] at hb
                have h9 : w8.heap.size ≤ b := by
                  rcases hb with ⟨_, o, e⟩ | ⟨x, hx, hb⟩
                  · exact hb9 b o e
                  · exact (hbl x hx b hb).1
                exact ⟨by omega, by omega⟩
              rw [el] at v2 hdl
              rw [eA, ec, ← hdl] at bp
              clear hdl hn2 eA ec el hs9 hb9 hv9 hok hbl hown HG HC V2 K2 HFIN hlt
              have hrw9 := hr
              have bpw9 := bp
              clear hr bp
              have brw9 := brw8.fr hfw (fun h => h.elim hrg hrp)
              have Fw9 := Fw8.trans hfw
              replace o1 := okH_fr ftLv o1 hfw (fun b hb e => by have := q1 b hb; omega)
              clear brw8 Fw8
              clear hfw hrw8 bpw8 lpsw8 hsz hgw
              go_wp2_with fail
              refine (rrInt_any hrw9).mono ?_
              rintro e w15 ⟨rfl, hrw15, hf⟩
              have o3 := gInt_rng s2
              have v3 := Lib.hid (gInt_inv (s := s2))
              generalize (gInt s2).1 = n3 at o3 v3 ⊢
              generalize (gInt s2).2 = s3 at hrw15 HS v3
              have bpw15 := bpw9.fr hf hpg
              have lp := bpw15.lt
              have fz : ∀ i, w15.frozen? ⟨gp, i, none⟩ = false := bpw15.frozen
              have pc0 : w15.cell? ⟨gp, 2, none⟩ = some (.int .i64 0) := bpw15.cell 2
              go_wp2_with fail
              have bpw16 : Blk (w15.setCell ⟨gp, 2, none⟩ (.int .i64 n3)) gp 28 #[.slice n1.A n1.l.length n1.c, .slice n2.A n2.l.length n2.c, .int .i64 n3, .int .i64 0, .int .i64 0, .int .i64 0, .int .i64 0, .int .i64 0] := (bpw15.set_ 2 (.int .i64 n3))
              have hs : Fr (fun q => q = gp) w15 (w15.setCell ⟨gp, 2, none⟩ (.int .i64 n3)) := ((Fr.refl (fun q => q = gp) w15).setCell (p := ⟨gp, 2, none⟩) (fun _ => rfl) _)
              have hrw16 := hrw15.fr hs (fun q e => by omega)
              generalize w15.setCell ⟨gp, 2, none⟩ (.int .i64 n3) = w16 at bpw16 hs hrw16 ⊢
              have hc : Fr (fun q => q = g ∨ q = gp) w9 w16 := (hf.mono (fun q _ e => .inl e)).trans (hs.mono (fun q _ e => .inr e))
              have brw16 := brw9.fr hc (fun h => h.elim hrg hrp)
              have Fw16 := Fw9.trans hc
              replace o1 := okH_fr ftLv o1 hc (fun b hb e => by have := q1 b hb; omega)
              replace o2 := okH_fr ftNp o2 hc (fun b hb e => by have := q2 b hb; omega)
              clear brw9 Fw9
              clear hrw9 hrw15 bpw9 bpw15 hf hs hc lp fz pc0
              refine (rrInt_any hrw16).mono ?_
              rintro e w17 ⟨rfl, hrw17, hf⟩
              have o4 := gInt_rng s3
              have v4 := Lib.hid (gInt_inv (s := s3))
              generalize (gInt s3).1 = n4 at o4 v4 ⊢
              generalize (gInt s3).2 = s4 at hrw17 HS v4
              have bpw17 := bpw16.fr hf hpg
              have lp := bpw17.lt
              have fz : ∀ i, w17.frozen? ⟨gp, i, none⟩ = false := bpw17.frozen
              have pc0 : w17.cell? ⟨gp, 3, none⟩ = some (.int .i64 0) := bpw17.cell 3
              go_wp2_with fail
              have bpw18 : Blk (w17.setCell ⟨gp, 3, none⟩ (.int .i64 n4)) gp 28 #[.slice n1.A n1.l.length n1.c, .slice n2.A n2.l.length n2.c, .int .i64 n3, .int .i64 n4, .int .i64 0, .int .i64 0, .int .i64 0, .int .i64 0] := (bpw17.set_ 3 (.int .i64 n4))
              have hs : Fr (fun q => q = gp) w17 (w17.setCell ⟨gp, 3, none⟩ (.int .i64 n4)) := ((Fr.refl (fun q => q = gp) w17).setCell (p := ⟨gp, 3, none⟩) (fun _ => rfl) _)
              have hrw18 := hrw17.fr hs (fun q e => by omega)
              generalize w17.setCell ⟨gp, 3, none⟩ (.int .i64 n4) = w18 at bpw18 hs hrw18 ⊢
              have hc : Fr (fun q => q = g ∨ q = gp) w16 w18 := (hf.mono (fun q _ e => .inl e)).trans (hs.mono (fun q _ e => .inr e))
              have brw18 := brw16.fr hc (fun h => h.elim hrg hrp)
              have Fw18 := Fw16.trans hc
              replace o1 := okH_fr ftLv o1 hc (fun b hb e => by have := q1 b hb; omega)
              replace o2 := okH_fr ftNp o2 hc (fun b hb e => by have := q2 b hb; omega)
              clear brw16 Fw16
              clear hrw16 hrw17 bpw16 bpw17 hf hs hc lp fz pc0
              refine (rrInt_any hrw18).mono ?_
              rintro e w19 ⟨rfl, hrw19, hf⟩
              have o5 := gInt_rng s4
              have v5 := Lib.hid (gInt_inv (s := s4))
              generalize (gInt s4).1 = n5 at o5 v5 ⊢
              generalize (gInt s4).2 = s5 at hrw19 HS v5
              have bpw19 := bpw18.fr hf hpg
              have lp := bpw19.lt
              have fz : ∀ i, w19.frozen? ⟨gp, i, none⟩ = false := bpw19.frozen
              have pc0 : w19.cell? ⟨gp, 4, none⟩ = some (.int .i64 0) := bpw19.cell 4
              go_wp2_with fail
              have bpw20 : Blk (w19.setCell ⟨gp, 4, none⟩ (.int .i64 n5)) gp 28 #[.slice n1.A n1.l.length n1.c, .slice n2.A n2.l.length n2.c, .int .i64 n3, .int .i64 n4, .int .i64 n5, .int .i64 0, .int .i64 0, .int .i64 0] := (bpw19.set_ 4 (.int .i64 n5))
              have hs : Fr (fun q => q = gp) w19 (w19.setCell ⟨gp, 4, none⟩ (.int .i64 n5)) := ((Fr.refl (fun q => q = gp) w19).setCell (p := ⟨gp, 4, none⟩) (fun _ => rfl) _)
              have hrw20 := hrw19.fr hs (fun q e => by omega)
              generalize w19.setCell ⟨gp, 4, none⟩ (.int .i64 n5) = w20 at bpw20 hs hrw20 ⊢
              have hc : Fr (fun q => q = g ∨ q = gp) w18 w20 := (hf.mono (fun q _ e => .inl e)).trans (hs.mono (fun q _ e => .inr e))
              have brw20 := brw18.fr hc (fun h => h.elim hrg hrp)
              have Fw20 := Fw18.trans hc
              replace o1 := okH_fr ftLv o1 hc (fun b hb e => by have := q1 b hb; omega)
              replace o2 := okH_fr ftNp o2 hc (fun b hb e => by have := q2 b hb; omega)
              clear brw18 Fw18
              clear hrw18 hrw19 bpw18 bpw19 hf hs hc lp fz pc0
              refine (rrInt_any hrw20).mono ?_
              rintro e w21 ⟨rfl, hrw21, hf⟩
              have o6 := gInt_rng s5
              have v6 := Lib.hid (gInt_inv (s := s5))
              generalize (gInt s5).1 = n6 at o6 v6 ⊢
              generalize (gInt s5).2 = s6 at hrw21 HS v6
              have bpw21 := bpw20.fr hf hpg
              have lp := bpw21.lt
              have fz : ∀ i, w21.frozen? ⟨gp, i, none⟩ = false := bpw21.frozen
              have pc0 : w21.cell? ⟨gp, 5, none⟩ = some (.int .i64 0) := bpw21.cell 5
              go_wp2_with fail
              have bpw22 : Blk (w21.setCell ⟨gp, 5, none⟩ (.int .i64 n6)) gp 28 #[.slice n1.A n1.l.length n1.c, .slice n2.A n2.l.length n2.c, .int .i64 n3, .int .i64 n4, .int .i64 n5, .int .i64 n6, .int .i64 0, .int .i64 0] := (bpw21.set_ 5 (.int .i64 n6))
              have hs : Fr (fun q => q = gp) w21 (w21.setCell ⟨gp, 5, none⟩ (.int .i64 n6)) := ((Fr.refl (fun q => q = gp) w21).setCell (p := ⟨gp, 5, none⟩) (fun _ => rfl) _)
              have hrw22 := hrw21.fr hs (fun q e => by omega)
              generalize w21.setCell ⟨gp, 5, none⟩ (.int .i64 n6) = w22 at bpw22 hs hrw22 ⊢
              have hc : Fr (fun q => q = g ∨ q = gp) w20 w22 := (hf.mono (fun q _ e => .inl e)).trans (hs.mono (fun q _ e => .inr e))
              have brw22 := brw20.fr hc (fun h => h.elim hrg hrp)
              have Fw22 := Fw20.trans hc
              replace o1 := okH_fr ftLv o1 hc (fun b hb e => by have := q1 b hb; omega)
              replace o2 := okH_fr ftNp o2 hc (fun b hb e => by have := q2 b hb; omega)
              clear brw20 Fw20
              clear hrw20 hrw21 bpw20 bpw21 hf hs hc lp fz pc0
              refine (rrInt_any hrw22).mono ?_
              rintro e w23 ⟨rfl, hrw23, hf⟩
              have o7 := gInt_rng s6
              have v7 := Lib.hid (gInt_inv (s := s6))
              generalize (gInt s6).1 = n7 at o7 v7 ⊢
              generalize (gInt s6).2 = s7 at hrw23 HS v7
              have bpw23 := bpw22.fr hf hpg
              have lp := bpw23.lt
              have fz : ∀ i, w23.frozen? ⟨gp, i, none⟩ = false := bpw23.frozen
              have pc0 : w23.cell? ⟨gp, 6, none⟩ = some (.int .i64 0) := bpw23.cell 6
              go_wp2_with fail
              have bpw24 : Blk (w23.setCell ⟨gp, 6, none⟩ (.int .i64 n7)) gp 28 #[.slice n1.A n1.l.length n1.c, .slice n2.A n2.l.length n2.c, .int .i64 n3, .int .i64 n4, .int .i64 n5, .int .i64 n6, .int .i64 n7, .int .i64 0] := (bpw23.set_ 6 (.int .i64 n7))
              have hs : Fr (fun q => q = gp) w23 (w23.setCell ⟨gp, 6, none⟩ (.int .i64 n7)) := ((Fr.refl (fun q => q = gp) w23).setCell (p := ⟨gp, 6, none⟩) (fun _ => rfl) _)
              have hrw24 := hrw23.fr hs (fun q e => by omega)
              generalize w23.setCell ⟨gp, 6, none⟩ (.int .i64 n7) = w24 at bpw24 hs hrw24 ⊢
              have hc : Fr (fun q => q = g ∨ q = gp) w22 w24 := (hf.mono (fun q _ e => .inl e)).trans (hs.mono (fun q _ e => .inr e))
              have brw24 := brw22.fr hc (fun h => h.elim hrg hrp)
              have Fw24 := Fw22.trans hc
              replace o1 := okH_fr ftLv o1 hc (fun b hb e => by have := q1 b hb; omega)
              replace o2 := okH_fr ftNp o2 hc (fun b hb e => by have := q2 b hb; omega)
              clear brw22 Fw22
              clear hrw22 hrw23 bpw22 bpw23 hf hs hc lp fz pc0
              refine (rrInt_any hrw24).mono ?_
              rintro e w25 ⟨rfl, hrw25, hf⟩
              have o8 := gInt_rng s7
              have v8 := Lib.hid (gInt_inv (s := s7))
              generalize (gInt s7).1 = n8 at o8 v8 ⊢
              generalize (gInt s7).2 = s8 at hrw25 HS v8
              have bpw25 := bpw24.fr hf hpg
              have lp := bpw25.lt
              have fz : ∀ i, w25.frozen? ⟨gp, i, none⟩ = false := bpw25.frozen
              have pc0 : w25.cell? ⟨gp, 7, none⟩ = some (.int .i64 0) := bpw25.cell 7
              go_upto_region 21 with fail
              have bpw26 : Blk (w25.setCell ⟨gp, 7, none⟩ (.int .i64 n8)) gp 28 #[.slice n1.A n1.l.length n1.c, .slice n2.A n2.l.length n2.c, .int .i64 n3, .int .i64 n4, .int .i64 n5, .int .i64 n6, .int .i64 n7, .int .i64 n8] := (bpw25.set_ 7 (.int .i64 n8))
              have hs : Fr (fun q => q = gp) w25 (w25.setCell ⟨gp, 7, none⟩ (.int .i64 n8)) := ((Fr.refl (fun q => q = gp) w25).setCell (p := ⟨gp, 7, none⟩) (fun _ => rfl) _)
              have hrw26 := hrw25.fr hs (fun q e => by omega)
              generalize w25.setCell ⟨gp, 7, none⟩ (.int .i64 n8) = w26 at bpw26 hs hrw26 ⊢
              have hc : Fr (fun q => q = g ∨ q = gp) w24 w26 := (hf.mono (fun q _ e => .inl e)).trans (hs.mono (fun q _ e => .inr e))
              have brw26 := brw24.fr hc (fun h => h.elim hrg hrp)
              have Fw26 := Fw24.trans hc
              replace o1 := okH_fr ftLv o1 hc (fun b hb e => by have := q1 b hb; omega)
              replace o2 := okH_fr ftNp o2 hc (fun b hb e => by have := q2 b hb; omega)
              clear brw24 Fw24
              clear hrw24 hrw25 bpw24 bpw25 hf hs hc lp fz pc0
              have pc0 : w26.cell? ⟨gp, 0, none⟩ = some (.slice n1.A n1.l.length n1.c) := bpw26.cell 0
              have pc1 : w26.cell? ⟨gp, 1, none⟩ = some (.slice n2.A n2.l.length n2.c) := bpw26.cell 1
              have pc2 : w26.cell? ⟨gp, 2, none⟩ = some (.int .i64 n3) := bpw26.cell 2
              have pc3 : w26.cell? ⟨gp, 3, none⟩ = some (.int .i64 n4) := bpw26.cell 3
              have pc4 : w26.cell? ⟨gp, 4, none⟩ = some (.int .i64 n5) := bpw26.cell 4
              have pc5 : w26.cell? ⟨gp, 5, none⟩ = some (.int .i64 n6) := bpw26.cell 5
              have pc6 : w26.cell? ⟨gp, 6, none⟩ = some (.int .i64 n7) := bpw26.cell 6
              have pc7 : w26.cell? ⟨gp, 7, none⟩ = some (.int .i64 n8) := bpw26.cell 7
              have z0 : w26.cell? ⟨gr, 0, none⟩ = some (.slice none 0 0) := brw26.cell 0
              have z1 : w26.cell? ⟨gr, 1, none⟩ = some (.slice none 0 0) := brw26.cell 1
              have z2 : w26.cell? ⟨gr, 2, none⟩ = some (.int .i64 0) := brw26.cell 2
              have z3 : w26.cell? ⟨gr, 3, none⟩ = some (.int .i64 0) := brw26.cell 3
              have z4 : w26.cell? ⟨gr, 4, none⟩ = some (.int .i64 0) := brw26.cell 4
              have z5 : w26.cell? ⟨gr, 5, none⟩ = some (.int .i64 0) := brw26.cell 5
              have z6 : w26.cell? ⟨gr, 6, none⟩ = some (.int .i64 0) := brw26.cell 6
              have z7 : w26.cell? ⟨gr, 7, none⟩ = some (.int .i64 0) := brw26.cell 7
              have lp := bpw26.lt
              have lr := brw26.lt
              have fz : ∀ i, w26.frozen? ⟨gr, i, none⟩ = false := brw26.frozen
              go_wp2_with fail
              have rK : Blk (setRow w26 gr 0 [.slice n1.A n1.l.length n1.c, .slice n2.A n2.l.length n2.c, .int .i64 n3, .int .i64 n4, .int .i64 n5, .int .i64 n6, .int .i64 n7, .int .i64 n8]) gr 28 _ := Blk.row brw26 rfl
              have rF : Fr (fun q => q = gr) w26 (setRow w26 gr 0 [.slice n1.A n1.l.length n1.c, .slice n2.A n2.l.length n2.c, .int .i64 n3, .int .i64 n4, .int .i64 n5, .int .i64 n6, .int .i64 n7, .int .i64 n8]) := Fr.row _ 0 (Fr.refl _ _) (fun _ => rfl)
              simp only [setRow, Nat.zero_add, Nat.reduceAdd] at rK rF
              generalize (((((((w26.setCell ⟨gr, 0, none⟩ (.slice n1.A n1.l.length n1.c)).setCell ⟨gr, 1, none⟩ (.slice n2.A n2.l.length n2.c)).setCell ⟨gr, 2, none⟩ (.int .i64 n3)).setCell ⟨gr, 3, none⟩ (.int .i64 n4)).setCell ⟨gr, 4, none⟩ (.int .i64 n5)).setCell ⟨gr, 5, none⟩ (.int .i64 n6)).setCell ⟨gr, 6, none⟩ (.int .i64 n7)).setCell ⟨gr, 7, none⟩ (.int .i64 n8) = w9 at rK rF ⊢
              have y0 : w9.cell? ⟨gr, 0, none⟩ = some (.slice n1.A n1.l.length n1.c) := rK.cell 0
              have y1 : w9.cell? ⟨gr, 1, none⟩ = some (.slice n2.A n2.l.length n2.c) := rK.cell 1
              have y2 : w9.cell? ⟨gr, 2, none⟩ = some (.int .i64 n3) := rK.cell 2
              have y3 : w9.cell? ⟨gr, 3, none⟩ = some (.int .i64 n4) := rK.cell 3
              have y4 : w9.cell? ⟨gr, 4, none⟩ = some (.int .i64 n5) := rK.cell 4
              have y5 : w9.cell? ⟨gr, 5, none⟩ = some (.int .i64 n6) := rK.cell 5
              have y6 : w9.cell? ⟨gr, 6, none⟩ = some (.int .i64 n7) := rK.cell 6
              have y7 : w9.cell? ⟨gr, 7, none⟩ = some (.int .i64 n8) := rK.cell 7
              have hr9 := hrw26.fr rF (fun q hq => by omega)
              have F9 : Fr (fun q => q = g) w w9 := ((Fr.of_below hb0 (fun q => q = g)).trans' Fw26 (fun q hq h => h.elim id (fun h => by omega))).trans' rF (fun q hq h => by omega)
              replace o1 := okH_fr ftLv o1 rF (fun b hb e => by have := q1 b hb; omega)
              replace o2 := okH_fr ftNp o2 rF (fun b hb e => by have := q2 b hb; omega)
              have HE : Hid ((kPw s).e = 0 → s.l = encPw ⟨n1, n2, n3, n4, n5, n6, n7, n8⟩ ++ (kPw s).l ∧ badPw (⟨n1, n2, n3, n4, n5, n6, n7, n8⟩ : Pw) = false) := fun he => by
                rw [HS.out] at he ⊢
                obtain ⟨e8, l8⟩ := v8.out he
                obtain ⟨e7, l7⟩ := v7.out e8
                obtain ⟨e6, l6⟩ := v6.out e7
                obtain ⟨e5, l5⟩ := v5.out e6
                obtain ⟨e4, l4⟩ := v4.out e5
                obtain ⟨e3, l3⟩ := v3.out e4
                obtain ⟨l2, d2⟩ := v2.out e3
                have e2 := u2.out e3
                obtain ⟨l1, d1⟩ := v1.out e2
                have e1 := u1.out e2
                refine ⟨?_, by unfold badPw; simp [d1, d2]⟩
                rw [l1, l2, l3, l4, l5, l6, l7, l8]
                unfold encPw
                simp only [intsB_cons, intsB_nil, List.append_assoc, List.append_nil]
              rw [HS.out] at HE
              try simp only [Exit.inBlock, Exit.then]
              refine bodyPost_ret (v := .agg #[.slice n1.A n1.l.length n1.c, .slice n2.A n2.l.length n2.c, .int .i64 n3, .int .i64 n4, .int .i64 n5, .int .i64 n6, .int .i64 n7, .int .i64 n8]) (by simp [results, Tryz.results45, go_sem, y0, y1, y2, y3, y4, y5, y6, y7]) rfl ?_
              refine ⟨⟨n1, n2, n3, n4, n5, n6, n7, n8⟩, rfl, ⟨o1, o2, o3, o4, o5, o6, o7, o8⟩, fun b hb => ?_, by rw [HS.out]; exact hr9, F9, by rw [HS.out]; exact HE⟩
              rcases hb with hb | hb
              · have := q1 b hb; omega
              · have := q2 b hb; omega
end Go.Proofs.YtahjnonkhbpnpaaGreat
