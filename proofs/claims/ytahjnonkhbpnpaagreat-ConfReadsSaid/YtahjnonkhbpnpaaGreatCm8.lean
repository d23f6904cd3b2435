/- Words and walks for the claims of this seat, merged: RcList1, RcList2. -/
import Derived.Test.YtahjnonkhbpnpaaGreatCm6
import Derived.Test.YtahjnonkhbpnpaaGreatCm7
/- conf's reader: lists. Printed by wip/gen_rclist.py. -/
namespace Go.Proofs.YtahjnonkhbpnpaaGreat
open Go.RowKit

set_option maxRecDepth 100000 in
set_option maxHeartbeats 8000000 in
theorem rdList_Pl {enc : Pl → List UInt8} {bad : Pl → Bool} {kf : RS → RS} (hF : OneR ftPl 94 Pl.v enc bad kf) : ListR ftPl 142 (fun g => #[.pointer (some ⟨g, 0, none⟩), .int .i64 64, .func (.func 94) #[] #[]]) enc bad kf := by
  intro w g B s h
  obtain ⟨i0, hi0, hz0, hz1, hz2⟩ := info_parts PlG_info
  have hBw : B ≤ w.heap.size := by obtain ⟨_, _, _, _, _, h3⟩ := h; exact h3.2.1
  have hgl : g < w.heap.size := by obtain ⟨_, _, _, h1, _, _⟩ := h; exact h1.lt
  have hrg := gInt_rng s
  have HL : Hid (kL kf s = kRep kf (gInt s).1.toNat (kHead s)) := rfl
  have HH : Hid (kHead s = if (gInt s).1 < 0 ∨ 64 < (gInt s).1 then errS (gInt s).2 3 else (gInt s).2) := rfl
  have HV : Hid ((gInt s).2.e = 0 → s.e = 0 ∧ s.l = vint (gInt s).1 ++ (gInt s).2.l) := fun h => gInt_inv h
  go_enter Tryz.func142, Tryz.ntmps142
  go_wp2_with fail
  refine (rdInt_any h).mono ?_
  rintro x w1 ⟨rfl, hr1, hf1⟩
  generalize (gInt s).1 = n at hrg HL HH HV ⊢
  generalize (gInt s).2 = s1 at hr1 HH HV ⊢
  generalize kHead s = s2 at HL HH
  have h3c : n < 0 ∨ (0 ≤ n ∧ 64 < n) ∨ (0 ≤ n ∧ n ≤ 64) := by omega
  rcases h3c with hn0 | ⟨hn0, hn2⟩ | ⟨hn0, hn2⟩
  case' inl =>
    have hs2 := HH.out
    rw [if_pos (by omega)] at hs2
    go_wp2_with fail
    refine (fail_any hr1 3).mono ?_
    rintro x w2 ⟨rfl, hr2, hf2⟩
    rw [← hs2] at hr2
    replace hf2 := hf1.trans hf2
    have hne : s2.e ≠ 0 := by rw [hs2]; unfold errS; split <;> simp_all
    have hbig : n.toNat ≤ 64 ∨ s2.e ≠ 0 := .inr hne
    have HV2 : Hid (s2.e = 0 → s.l = vint n ++ s2.l ∧ 0 ≤ n) := fun h => absurd h hne
    clear hs2 HH hr1 hf1 HV hne
    go_wp2_with fail
    clear hn0
  case' inr.inl =>
    have hn1 : decide (n < 0) = false := by simp; omega
    have hs2 := HH.out
    rw [if_pos (by omega)] at hs2
    go_wp2_with fail
    refine (fail_any hr1 3).mono ?_
    rintro x w2 ⟨rfl, hr2, hf2⟩
    rw [← hs2] at hr2
    replace hf2 := hf1.trans hf2
    have hne : s2.e ≠ 0 := by rw [hs2]; unfold errS; split <;> simp_all
    have hbig : n.toNat ≤ 64 ∨ s2.e ≠ 0 := .inr hne
    have HV2 : Hid (s2.e = 0 → s.l = vint n ++ s2.l ∧ 0 ≤ n) := fun h => absurd h hne
    clear hs2 HH hr1 hf1 HV hne
    go_wp2_with fail
    clear hn2 hn1 hn0
  case' inr.inr =>
    have hs2 := HH.out
    rw [if_neg (by omega)] at hs2
    subst hs2
    have hn1 : decide (n < 0) = false := by simp; omega
    have hn3 : decide (64 < n) = false := by simp; omega
    have hbig : n.toNat ≤ 64 ∨ s2.e ≠ 0 := .inl (by omega)
    have HV2 : Hid (s2.e = 0 → s.l = vint n ++ s2.l ∧ 0 ≤ n) := fun h => ⟨(HV.out h).2, hn0⟩
    generalize w1 = w2 at hr1 hf1 ⊢
    have hr2 := hr1
    have hf2 := hf1
    clear HH hr1 hf1 HV
    go_wp2_with fail
  all_goals
    have hnn : i64 n := hrg
    generalize hN : n.toNat = N at HL hbig
    go_loopw [8, 9] (fun v0 i wr => ∃ (v : Value) (k : Nat) (dn : List Pl) (sc : RS), v = v0 ∧ (0 < k → (k : Int) ≤ n) ∧ i = .int .i64 k ∧ dn.length = k ∧ wr.ownsRow w.heap.size 142 2 v k (dn.flatMap rdPl.f) ∧ (∀ x ∈ dn, rdPl.ok wr x) ∧ (∀ x ∈ dn, ∀ b, ftPl.blk x b → w.heap.size ≤ b ∧ v.ownBlock ≠ some b) ∧ RdSt wr g B sc ∧ Fr (fun k => k = g) w wr ∧ (N ≤ 64 ∨ sc.e ≠ 0) ∧ k ≤ 64 ∧ Hid (kRep kf N s2 = kRep kf (N - k) sc) ∧ Hid (sc.e = 0 → s2.e = 0 ∧ s2.l = dn.flatMap enc ++ sc.l ∧ dn.any bad = false)) (fun _ i _ => n.toNat - (intOf i).toNat)
    case atStart => exact ⟨_, 0, [], s2, rfl, by omega, rfl, rfl, World.ownsRow_nil _ _ _ _, (fun x h => by cases h), (fun x h => by cases h), hr2, hf2, hbig, by omega, by unfold Hid; simp, fun h => ⟨h, rfl, rfl⟩⟩
    case round =>
      obtain ⟨v, k, dn, sc, rfl, hkn, rfl, hdl, hown, hok, hbl, hr, hfw, hbg, hk5, HG, HC⟩ := hrel
      have hsz := hfw.size
      have hr' := hr
      obtain ⟨Ar, nr, cr, k1, k2, k3⟩ := hr'
      have hgw := k1.lt
      have d1 : wr.cell? ⟨g, 1, none⟩ = some (.int .i64 sc.e) := k1.cell 1
      by_cases he : sc.e = 0
      · have he' : (sc.e == 0) = true := by simpa using he
        have he2 : (sc.e != 0) = false := by simpa using he
        have hN5 : N ≤ 64 := by
          rcases hbg with h | h
          · exact h
          · exact absurd he h
        by_cases hkN : (k : Int) < n
        · have HM : Hid (kRep kf N s2 = kRep kf (N - (k + 1)) (kf sc)) := by
            unfold Hid
            rw [HG.out, show N - k = (N - (k + 1)) + 1 by omega, kRep_more he]
          have HC2 := Lib.hid (HC.out he)
          clear he hbg HG HC
          go_wp2_with fail
          refine (hF wr g B sc hr).mono ?_
          rintro x w3 ⟨y, rfl, hoy, hby, hr3, hf3, hcy⟩
          have hownA := own_far hown hf3 (fun k hk => by omega)
          have hz3 := hf3.size
          have hne3 : ∀ x ∈ dn, ∀ b, ftPl.blk x b → ¬ b = g := fun x hx b hb e => by have := (hbl x hx b hb).1; omega
          have hok3 : ∀ x ∈ dn, rdPl.ok w3 x := fun x hx => ftPl.fr (hok x hx) hf3 (hne3 x hx)
          have hlt3 : ∀ x ∈ dn, ∀ b, ftPl.blk x b → b < w3.heap.size := fun x hx b hb => ftPl.lt (hok3 x hx) hb
          have hlty : ∀ b, ftPl.blk y b → b < w3.heap.size := fun b hb => ftPl.lt hoy hb
          have hby2 : ∀ b, ftPl.blk y b → v.ownBlock ≠ some b := fun b hb e => by have := (hown.lt b e).2; have := hby b hb; omega
          have HM2 : Hid ((kf sc).e = 0 → s2.e = 0 ∧ s2.l = (dn ++ [y]).flatMap enc ++ (kf sc).l ∧ (dn ++ [y]).any bad = false) := fun h => by
            obtain ⟨a1, a2, a3⟩ := HC2.out
            obtain ⟨b1, b2⟩ := hcy.out h
            refine ⟨a1, ?_, ?_⟩
            · rw [a2, b1, List.flatMap_append, List.append_assoc]
              simp
            · rw [List.any_append, a3, List.any_cons, b2]
              rfl
          clear hcy HC2 hok d1 he' he2 k1 k2 k3
          generalize kf sc = s3 at hr3 HM HM2
          unfold Pl.v
          try unfold Hd.v
          go_wp2_with (at_builtin; refine wpList_app1 w3 (by rfl) _ _ 53 (by rfl) w.heap.size 142 i0 _ 2 16 (by kernel_rfl) hi0 hz0 hz1 hz2 rfl (by decide) (by decide) _ k _ (by rfl) hownA #[.int .i64 y.size, .int .i64 y.depth] rfl (by simp [Value.oneCell']) (by rfl) (by omega) (by omega) ?_; intro v' w4 hown4 hf4 hat4)
          have hr4 : RdSt w4 g B s3 := hr3.fr hf4 (fun k hk => Nat.le_trans hBw (hownA.lt k hk).1)
          have hok4 : ∀ x ∈ dn ++ [y], rdPl.ok w4 x := fun x hx => by
            rcases List.mem_append.1 hx with hx | hx
            · exact ftPl.fr (hok3 x hx) hf4 (fun b hb => (hbl x hx b hb).2)
            · obtain rfl := List.mem_singleton.1 hx
              exact ftPl.fr hoy hf4 hby2
          have hbl4 : ∀ x ∈ dn ++ [y], ∀ b, ftPl.blk x b → w.heap.size ≤ b ∧ v'.ownBlock ≠ some b := fun x hx b hb => by
            have hx2 : w.heap.size ≤ b ∧ v.ownBlock ≠ some b ∧ b < w3.heap.size := by
              rcases List.mem_append.1 hx with hx | hx
              · exact ⟨(hbl x hx b hb).1, (hbl x hx b hb).2, hlt3 x hx b hb⟩
              · obtain rfl := List.mem_singleton.1 hx
                exact ⟨Nat.le_trans hsz (hby b hb), hby2 b hb, hlty b hb⟩
            refine ⟨hx2.1, fun e => ?_⟩
            rcases hat4 with h | ⟨g', h, hg'⟩
            · exact hx2.2.1 (h ▸ e)
            · rw [h] at e
              cases e
              omega
          exact ⟨⟨_, k + 1, dn ++ [y], s3, rfl, by omega, by go_num, by simp [hdl], by rw [List.flatMap_append]; simpa [rdPl, Pl.f, Hd.v] using hown4, hok4, hbl4, hr4, (hfw.trans hf3).trans' (hf4.mono (S' := fun k => w.heap.size ≤ k) (fun k _ hk => (hownA.lt k hk).1)) (fun k hk h => by omega), .inl hN5, by omega, HM, HM2⟩, by simp [intOf]; omega⟩
        · have hfin : kL kf s = sc := by
            rw [HL.out, HG.out]
            have : N - k = 0 := by omega
            rw [this]
            rfl
          have HC2 := HC.out he
          have hv2 := HV2.out HC2.1
          have hkn2 : (k : Int) = n := by
            by_cases hk0 : 0 < k
            · have := hkn hk0; omega
            · have := hv2.2; omega
          have HFIN := Lib.hid hfin
          have hkN' : ¬ (k : Int) < n := hkN
          have HE : Hid (sc.e = 0 → s.l = lst enc dn ++ sc.l ∧ badL bad dn = false) := fun _ => by
            refine ⟨?_, ?_⟩
            · rw [hv2.1, HC2.2.1, ← hkn2, ← hdl]
              unfold lst
              rw [List.append_assoc]
            · unfold badL
              rw [HC2.2.2, hdl]
              simp
              omega
          obtain ⟨A9, c9, hv9, hs9, hb9⟩ := SlG.of_own hown (fun x _ => rdPl.len x) hdl
          clear hfin he hbg HG HL HC HC2 hv2
          go_wp2_with fail
          go_ret
          rw [HFIN.out]
          refine ⟨⟨A9, c9, dn⟩, by show Ending.returned (.slice A9 k c9) = .returned (.slice A9 dn.length c9); rw [hdl], ⟨by rw [← hdl] at hs9; exact hs9, hok⟩, fun b hb => ?_, hr, hfw, HE⟩
          rcases hb with ⟨_, o, e⟩ | ⟨x, hx, hb⟩
          · exact hb9 b o e
          · exact (hbl x hx b hb).1
      · have he' : (sc.e == 0) = false := by simpa using he
        have he2 : (sc.e != 0) = true := by simpa using he
        have hfin : kL kf s = sc := by
          rw [HL.out, HG.out, kRep_err he]
        have HFIN := Lib.hid hfin
        have HE : Hid (sc.e = 0 → s.l = lst enc [] ++ sc.l ∧ badL bad ([] : List Pl) = false) := fun h => absurd h he
        clear hfin he hbg HG HL HC
        by_cases hkN : (k : Int) < n
        all_goals
          go_wp2_with fail
          go_ret
          rw [HFIN.out]
          refine ⟨⟨none, 0, []⟩, rfl, ⟨SlG.nil _ _ _, fun x h => by cases h⟩, fun b hb => ?_, hr, hfw, HE⟩
          rcases hb with ⟨h, _⟩ | ⟨x, hx, _⟩
          · exact absurd h (by simp)
          · cases hx
theorem rdSome_Pl {enc : Pl → List UInt8} {bad : Pl → Bool} {kf : RS → RS} (hF : OneR ftPl 94 Pl.v enc bad kf) : ListR ftPl 93 (fun g => #[.pointer (some ⟨g, 0, none⟩), .func (.func 94) #[] #[]]) enc bad kf := by
  intro w g B s h
  go_enter Tryz.func93, Tryz.ntmps93
  go_wp2_with fail
  refine (rdList_Pl hF w g B s h).mono ?_
  rintro e w2 ⟨y, rfl, h1, h2, h3, h4, h5⟩
  go_wp2_with fail
  go_ret
  exact ⟨y, rfl, h1, h2, h3, h4, h5⟩


set_option maxRecDepth 100000 in
set_option maxHeartbeats 8000000 in
theorem rdList_Wn {enc : Wn → List UInt8} {bad : Wn → Bool} {kf : RS → RS} (hF : OneR ftWn 98 Wn.v enc bad kf) : ListR ftWn 143 (fun g => #[.pointer (some ⟨g, 0, none⟩), .int .i64 64, .func (.func 98) #[] #[]]) enc bad kf := by
  intro w g B s h
  obtain ⟨i0, hi0, hz0, hz1, hz2⟩ := info_parts WnG_info
  have hBw : B ≤ w.heap.size := by obtain ⟨_, _, _, _, _, h3⟩ := h; exact h3.2.1
  have hgl : g < w.heap.size := by obtain ⟨_, _, _, h1, _, _⟩ := h; exact h1.lt
  have hrg := gInt_rng s
  have HL : Hid (kL kf s = kRep kf (gInt s).1.toNat (kHead s)) := rfl
  have HH : Hid (kHead s = if (gInt s).1 < 0 ∨ 64 < (gInt s).1 then errS (gInt s).2 3 else (gInt s).2) := rfl
  have HV : Hid ((gInt s).2.e = 0 → s.e = 0 ∧ s.l = vint (gInt s).1 ++ (gInt s).2.l) := fun h => gInt_inv h
  go_enter Tryz.func143, Tryz.ntmps143
  go_wp2_with fail
  refine (rdInt_any h).mono ?_
  rintro x w1 ⟨rfl, hr1, hf1⟩
  generalize (gInt s).1 = n at hrg HL HH HV ⊢
  generalize (gInt s).2 = s1 at hr1 HH HV ⊢
  generalize kHead s = s2 at HL HH
  have h3c : n < 0 ∨ (0 ≤ n ∧ 64 < n) ∨ (0 ≤ n ∧ n ≤ 64) := by omega
  rcases h3c with hn0 | ⟨hn0, hn2⟩ | ⟨hn0, hn2⟩
  case' inl =>
    have hs2 := HH.out
    rw [if_pos (by omega)] at hs2
    go_wp2_with fail
    refine (fail_any hr1 3).mono ?_
    rintro x w2 ⟨rfl, hr2, hf2⟩
    rw [← hs2] at hr2
    replace hf2 := hf1.trans hf2
    have hne : s2.e ≠ 0 := by rw [hs2]; unfold errS; split <;> simp_all
    have hbig : n.toNat ≤ 64 ∨ s2.e ≠ 0 := .inr hne
    have HV2 : Hid (s2.e = 0 → s.l = vint n ++ s2.l ∧ 0 ≤ n) := fun h => absurd h hne
    clear hs2 HH hr1 hf1 HV hne
    go_wp2_with fail
    clear hn0
  case' inr.inl =>
    have hn1 : decide (n < 0) = false := by simp; omega
    have hs2 := HH.out
    rw [if_pos (by omega)] at hs2
    go_wp2_with fail
    refine (fail_any hr1 3).mono ?_
    rintro x w2 ⟨rfl, hr2, hf2⟩
    rw [← hs2] at hr2
    replace hf2 := hf1.trans hf2
    have hne : s2.e ≠ 0 := by rw [hs2]; unfold errS; split <;> simp_all
    have hbig : n.toNat ≤ 64 ∨ s2.e ≠ 0 := .inr hne
    have HV2 : Hid (s2.e = 0 → s.l = vint n ++ s2.l ∧ 0 ≤ n) := fun h => absurd h hne
    clear hs2 HH hr1 hf1 HV hne
    go_wp2_with fail
    clear hn2 hn1 hn0
  case' inr.inr =>
    have hs2 := HH.out
    rw [if_neg (by omega)] at hs2
    subst hs2
    have hn1 : decide (n < 0) = false := by simp; omega
    have hn3 : decide (64 < n) = false := by simp; omega
    have hbig : n.toNat ≤ 64 ∨ s2.e ≠ 0 := .inl (by omega)
    have HV2 : Hid (s2.e = 0 → s.l = vint n ++ s2.l ∧ 0 ≤ n) := fun h => ⟨(HV.out h).2, hn0⟩
    generalize w1 = w2 at hr1 hf1 ⊢
    have hr2 := hr1
    have hf2 := hf1
    clear HH hr1 hf1 HV
    go_wp2_with fail
  all_goals
    have hnn : i64 n := hrg
    generalize hN : n.toNat = N at HL hbig
    go_loopw [8, 9] (fun v0 i wr => ∃ (v : Value) (k : Nat) (dn : List Wn) (sc : RS), v = v0 ∧ (0 < k → (k : Int) ≤ n) ∧ i = .int .i64 k ∧ dn.length = k ∧ wr.ownsRow w.heap.size 85 3 v k (dn.flatMap rdWn.f) ∧ (∀ x ∈ dn, rdWn.ok wr x) ∧ (∀ x ∈ dn, ∀ b, ftWn.blk x b → w.heap.size ≤ b ∧ v.ownBlock ≠ some b) ∧ RdSt wr g B sc ∧ Fr (fun k => k = g) w wr ∧ (N ≤ 64 ∨ sc.e ≠ 0) ∧ k ≤ 64 ∧ Hid (kRep kf N s2 = kRep kf (N - k) sc) ∧ Hid (sc.e = 0 → s2.e = 0 ∧ s2.l = dn.flatMap enc ++ sc.l ∧ dn.any bad = false)) (fun _ i _ => n.toNat - (intOf i).toNat)
    case atStart => exact ⟨_, 0, [], s2, rfl, by omega, rfl, rfl, World.ownsRow_nil _ _ _ _, (fun x h => by cases h), (fun x h => by cases h), hr2, hf2, hbig, by omega, by unfold Hid; simp, fun h => ⟨h, rfl, rfl⟩⟩
    case round =>
      obtain ⟨v, k, dn, sc, rfl, hkn, rfl, hdl, hown, hok, hbl, hr, hfw, hbg, hk5, HG, HC⟩ := hrel
      have hsz := hfw.size
      have hr' := hr
      obtain ⟨Ar, nr, cr, k1, k2, k3⟩ := hr'
      have hgw := k1.lt
      have d1 : wr.cell? ⟨g, 1, none⟩ = some (.int .i64 sc.e) := k1.cell 1
      by_cases he : sc.e = 0
      · have he' : (sc.e == 0) = true := by simpa using he
        have he2 : (sc.e != 0) = false := by simpa using he
        have hN5 : N ≤ 64 := by
          rcases hbg with h | h
          · exact h
          · exact absurd he h
        by_cases hkN : (k : Int) < n
        · have HM : Hid (kRep kf N s2 = kRep kf (N - (k + 1)) (kf sc)) := by
            unfold Hid
            rw [HG.out, show N - k = (N - (k + 1)) + 1 by omega, kRep_more he]
          have HC2 := Lib.hid (HC.out he)
          clear he hbg HG HC
          go_wp2_with fail
          refine (hF wr g B sc hr).mono ?_
          rintro x w3 ⟨y, rfl, hoy, hby, hr3, hf3, hcy⟩
          have hownA := own_far hown hf3 (fun k hk => by omega)
          have hz3 := hf3.size
          have hne3 : ∀ x ∈ dn, ∀ b, ftWn.blk x b → ¬ b = g := fun x hx b hb e => by have := (hbl x hx b hb).1; omega
          have hok3 : ∀ x ∈ dn, rdWn.ok w3 x := fun x hx => ftWn.fr (hok x hx) hf3 (hne3 x hx)
          have hlt3 : ∀ x ∈ dn, ∀ b, ftWn.blk x b → b < w3.heap.size := fun x hx b hb => ftWn.lt (hok3 x hx) hb
          have hlty : ∀ b, ftWn.blk y b → b < w3.heap.size := fun b hb => ftWn.lt hoy hb
          have hby2 : ∀ b, ftWn.blk y b → v.ownBlock ≠ some b := fun b hb e => by have := (hown.lt b e).2; have := hby b hb; omega
          have HM2 : Hid ((kf sc).e = 0 → s2.e = 0 ∧ s2.l = (dn ++ [y]).flatMap enc ++ (kf sc).l ∧ (dn ++ [y]).any bad = false) := fun h => by
            obtain ⟨a1, a2, a3⟩ := HC2.out
            obtain ⟨b1, b2⟩ := hcy.out h
            refine ⟨a1, ?_, ?_⟩
            · rw [a2, b1, List.flatMap_append, List.append_assoc]
              simp
            · rw [List.any_append, a3, List.any_cons, b2]
              rfl
          clear hcy HC2 hok d1 he' he2 k1 k2 k3
          generalize kf sc = s3 at hr3 HM HM2
          unfold Wn.v
          try unfold Hd.v
          go_wp2_with (at_builtin; refine wpList_app1 w3 (by rfl) _ _ 56 (by rfl) w.heap.size 85 i0 _ 3 24 (by kernel_rfl) hi0 hz0 hz1 hz2 rfl (by decide) (by decide) _ k _ (by rfl) hownA #[.int .i64 y.part, .int .i64 y.start, .int .i64 y.len] rfl (by simp [Value.oneCell']) (by rfl) (by omega) (by omega) ?_; intro v' w4 hown4 hf4 hat4)
          have hr4 : RdSt w4 g B s3 := hr3.fr hf4 (fun k hk => Nat.le_trans hBw (hownA.lt k hk).1)
          have hok4 : ∀ x ∈ dn ++ [y], rdWn.ok w4 x := fun x hx => by
            rcases List.mem_append.1 hx with hx | hx
            · exact ftWn.fr (hok3 x hx) hf4 (fun b hb => (hbl x hx b hb).2)
            · obtain rfl := List.mem_singleton.1 hx
              exact ftWn.fr hoy hf4 hby2
          have hbl4 : ∀ x ∈ dn ++ [y], ∀ b, ftWn.blk x b → w.heap.size ≤ b ∧ v'.ownBlock ≠ some b := fun x hx b hb => by
            have hx2 : w.heap.size ≤ b ∧ v.ownBlock ≠ some b ∧ b < w3.heap.size := by
              rcases List.mem_append.1 hx with hx | hx
              · exact ⟨(hbl x hx b hb).1, (hbl x hx b hb).2, hlt3 x hx b hb⟩
              · obtain rfl := List.mem_singleton.1 hx
                exact ⟨Nat.le_trans hsz (hby b hb), hby2 b hb, hlty b hb⟩
            refine ⟨hx2.1, fun e => ?_⟩
            rcases hat4 with h | ⟨g', h, hg'⟩
            · exact hx2.2.1 (h ▸ e)
            · rw [h] at e
              cases e
              omega
          exact ⟨⟨_, k + 1, dn ++ [y], s3, rfl, by omega, by go_num, by simp [hdl], by rw [List.flatMap_append]; simpa [rdWn, Wn.f, Hd.v] using hown4, hok4, hbl4, hr4, (hfw.trans hf3).trans' (hf4.mono (S' := fun k => w.heap.size ≤ k) (fun k _ hk => (hownA.lt k hk).1)) (fun k hk h => by omega), .inl hN5, by omega, HM, HM2⟩, by simp [intOf]; omega⟩
        · have hfin : kL kf s = sc := by
            rw [HL.out, HG.out]
            have : N - k = 0 := by omega
            rw [this]
            rfl
          have HC2 := HC.out he
          have hv2 := HV2.out HC2.1
          have hkn2 : (k : Int) = n := by
            by_cases hk0 : 0 < k
            · have := hkn hk0; omega
            · have := hv2.2; omega
          have HFIN := Lib.hid hfin
          have hkN' : ¬ (k : Int) < n := hkN
          have HE : Hid (sc.e = 0 → s.l = lst enc dn ++ sc.l ∧ badL bad dn = false) := fun _ => by
            refine ⟨?_, ?_⟩
            · rw [hv2.1, HC2.2.1, ← hkn2, ← hdl]
              unfold lst
              rw [List.append_assoc]
            · unfold badL
              rw [HC2.2.2, hdl]
              simp
              omega
          obtain ⟨A9, c9, hv9, hs9, hb9⟩ := SlG.of_own hown (fun x _ => rdWn.len x) hdl
          clear hfin he hbg HG HL HC HC2 hv2
          go_wp2_with fail
          go_ret
          rw [HFIN.out]
          refine ⟨⟨A9, c9, dn⟩, by show Ending.returned (.slice A9 k c9) = .returned (.slice A9 dn.length c9); rw [hdl], ⟨by rw [← hdl] at hs9; exact hs9, hok⟩, fun b hb => ?_, hr, hfw, HE⟩
          rcases hb with ⟨_, o, e⟩ | ⟨x, hx, hb⟩
          · exact hb9 b o e
          · exact (hbl x hx b hb).1
      · have he' : (sc.e == 0) = false := by simpa using he
        have he2 : (sc.e != 0) = true := by simpa using he
        have hfin : kL kf s = sc := by
          rw [HL.out, HG.out, kRep_err he]
        have HFIN := Lib.hid hfin
        have HE : Hid (sc.e = 0 → s.l = lst enc [] ++ sc.l ∧ badL bad ([] : List Wn) = false) := fun h => absurd h he
        clear hfin he hbg HG HL HC
        by_cases hkN : (k : Int) < n
        all_goals
          go_wp2_with fail
          go_ret
          rw [HFIN.out]
          refine ⟨⟨none, 0, []⟩, rfl, ⟨SlG.nil _ _ _, fun x h => by cases h⟩, fun b hb => ?_, hr, hfw, HE⟩
          rcases hb with ⟨h, _⟩ | ⟨x, hx, _⟩
          · exact absurd h (by simp)
          · cases hx
theorem rdSome_Wn {enc : Wn → List UInt8} {bad : Wn → Bool} {kf : RS → RS} (hF : OneR ftWn 98 Wn.v enc bad kf) : ListR ftWn 97 (fun g => #[.pointer (some ⟨g, 0, none⟩), .func (.func 98) #[] #[]]) enc bad kf := by
  intro w g B s h
  go_enter Tryz.func97, Tryz.ntmps97
  go_wp2_with fail
  refine (rdList_Wn hF w g B s h).mono ?_
  rintro e w2 ⟨y, rfl, h1, h2, h3, h4, h5⟩
  go_wp2_with fail
  go_ret
  exact ⟨y, rfl, h1, h2, h3, h4, h5⟩


set_option maxRecDepth 100000 in
set_option maxHeartbeats 8000000 in
theorem rdList_Lv {enc : Lv → List UInt8} {bad : Lv → Bool} {kf : RS → RS} (hF : OneR ftLv 100 Lv.v enc bad kf) : ListR ftLv 144 (fun g => #[.pointer (some ⟨g, 0, none⟩), .int .i64 64, .func (.func 100) #[] #[]]) enc bad kf := by
  intro w g B s h
  obtain ⟨i0, hi0, hz0, hz1, hz2⟩ := info_parts LvG_info
  have hBw : B ≤ w.heap.size := by obtain ⟨_, _, _, _, _, h3⟩ := h; exact h3.2.1
  have hgl : g < w.heap.size := by obtain ⟨_, _, _, h1, _, _⟩ := h; exact h1.lt
  have hrg := gInt_rng s
  have HL : Hid (kL kf s = kRep kf (gInt s).1.toNat (kHead s)) := rfl
  have HH : Hid (kHead s = if (gInt s).1 < 0 ∨ 64 < (gInt s).1 then errS (gInt s).2 3 else (gInt s).2) := rfl
  have HV : Hid ((gInt s).2.e = 0 → s.e = 0 ∧ s.l = vint (gInt s).1 ++ (gInt s).2.l) := fun h => gInt_inv h
  go_enter Tryz.func144, Tryz.ntmps144
  go_wp2_with fail
  refine (rdInt_any h).mono ?_
  rintro x w1 ⟨rfl, hr1, hf1⟩
  generalize (gInt s).1 = n at hrg HL HH HV ⊢
  generalize (gInt s).2 = s1 at hr1 HH HV ⊢
  generalize kHead s = s2 at HL HH
  have h3c : n < 0 ∨ (0 ≤ n ∧ 64 < n) ∨ (0 ≤ n ∧ n ≤ 64) := by omega
  rcases h3c with hn0 | ⟨hn0, hn2⟩ | ⟨hn0, hn2⟩
  case' inl =>
    have hs2 := HH.out
    rw [if_pos (by omega)] at hs2
    go_wp2_with fail
    refine (fail_any hr1 3).mono ?_
    rintro x w2 ⟨rfl, hr2, hf2⟩
    rw [← hs2] at hr2
    replace hf2 := hf1.trans hf2
    have hne : s2.e ≠ 0 := by rw [hs2]; unfold errS; split <;> simp_all
    have hbig : n.toNat ≤ 64 ∨ s2.e ≠ 0 := .inr hne
    have HV2 : Hid (s2.e = 0 → s.l = vint n ++ s2.l ∧ 0 ≤ n) := fun h => absurd h hne
    clear hs2 HH hr1 hf1 HV hne
    go_wp2_with fail
    clear hn0
  case' inr.inl =>
    have hn1 : decide (n < 0) = false := by simp; omega
    have hs2 := HH.out
    rw [if_pos (by omega)] at hs2
    go_wp2_with fail
    refine (fail_any hr1 3).mono ?_
    rintro x w2 ⟨rfl, hr2, hf2⟩
    rw [← hs2] at hr2
    replace hf2 := hf1.trans hf2
    have hne : s2.e ≠ 0 := by rw [hs2]; unfold errS; split <;> simp_all
    have hbig : n.toNat ≤ 64 ∨ s2.e ≠ 0 := .inr hne
    have HV2 : Hid (s2.e = 0 → s.l = vint n ++ s2.l ∧ 0 ≤ n) := fun h => absurd h hne
    clear hs2 HH hr1 hf1 HV hne
    go_wp2_with fail
    clear hn2 hn1 hn0
  case' inr.inr =>
    have hs2 := HH.out
    rw [if_neg (by omega)] at hs2
    subst hs2
    have hn1 : decide (n < 0) = false := by simp; omega
    have hn3 : decide (64 < n) = false := by simp; omega
    have hbig : n.toNat ≤ 64 ∨ s2.e ≠ 0 := .inl (by omega)
    have HV2 : Hid (s2.e = 0 → s.l = vint n ++ s2.l ∧ 0 ≤ n) := fun h => ⟨(HV.out h).2, hn0⟩
    generalize w1 = w2 at hr1 hf1 ⊢
    have hr2 := hr1
    have hf2 := hf1
    clear HH hr1 hf1 HV
    go_wp2_with fail
  all_goals
    have hnn : i64 n := hrg
    generalize hN : n.toNat = N at HL hbig
    go_loopw [8, 9] (fun v0 i wr => ∃ (v : Value) (k : Nat) (dn : List Lv) (sc : RS), v = v0 ∧ (0 < k → (k : Int) ≤ n) ∧ i = .int .i64 k ∧ dn.length = k ∧ wr.ownsRow w.heap.size 87 2 v k (dn.flatMap rdLv.f) ∧ (∀ x ∈ dn, rdLv.ok wr x) ∧ (∀ x ∈ dn, ∀ b, ftLv.blk x b → w.heap.size ≤ b ∧ v.ownBlock ≠ some b) ∧ RdSt wr g B sc ∧ Fr (fun k => k = g) w wr ∧ (N ≤ 64 ∨ sc.e ≠ 0) ∧ k ≤ 64 ∧ Hid (kRep kf N s2 = kRep kf (N - k) sc) ∧ Hid (sc.e = 0 → s2.e = 0 ∧ s2.l = dn.flatMap enc ++ sc.l ∧ dn.any bad = false)) (fun _ i _ => n.toNat - (intOf i).toNat)
    case atStart => exact ⟨_, 0, [], s2, rfl, by omega, rfl, rfl, World.ownsRow_nil _ _ _ _, (fun x h => by cases h), (fun x h => by cases h), hr2, hf2, hbig, by omega, by unfold Hid; simp, fun h => ⟨h, rfl, rfl⟩⟩
    case round =>
      obtain ⟨v, k, dn, sc, rfl, hkn, rfl, hdl, hown, hok, hbl, hr, hfw, hbg, hk5, HG, HC⟩ := hrel
      have hsz := hfw.size
      have hr' := hr
      obtain ⟨Ar, nr, cr, k1, k2, k3⟩ := hr'
      have hgw := k1.lt
      have d1 : wr.cell? ⟨g, 1, none⟩ = some (.int .i64 sc.e) := k1.cell 1
      by_cases he : sc.e = 0
      · have he' : (sc.e == 0) = true := by simpa using he
        have he2 : (sc.e != 0) = false := by simpa using he
        have hN5 : N ≤ 64 := by
          rcases hbg with h | h
          · exact h
          · exact absurd he h
        by_cases hkN : (k : Int) < n
        · have HM : Hid (kRep kf N s2 = kRep kf (N - (k + 1)) (kf sc)) := by
            unfold Hid
            rw [HG.out, show N - k = (N - (k + 1)) + 1 by omega, kRep_more he]
          have HC2 := Lib.hid (HC.out he)
          clear he hbg HG HC
          go_wp2_with fail
          refine (hF wr g B sc hr).mono ?_
          rintro x w3 ⟨y, rfl, hoy, hby, hr3, hf3, hcy⟩
          have hownA := own_far hown hf3 (fun k hk => by omega)
          have hz3 := hf3.size
          have hne3 : ∀ x ∈ dn, ∀ b, ftLv.blk x b → ¬ b = g := fun x hx b hb e => by have := (hbl x hx b hb).1; omega
          have hok3 : ∀ x ∈ dn, rdLv.ok w3 x := fun x hx => ftLv.fr (hok x hx) hf3 (hne3 x hx)
          have hlt3 : ∀ x ∈ dn, ∀ b, ftLv.blk x b → b < w3.heap.size := fun x hx b hb => ftLv.lt (hok3 x hx) hb
          have hlty : ∀ b, ftLv.blk y b → b < w3.heap.size := fun b hb => ftLv.lt hoy hb
          have hby2 : ∀ b, ftLv.blk y b → v.ownBlock ≠ some b := fun b hb e => by have := (hown.lt b e).2; have := hby b hb; omega
          have HM2 : Hid ((kf sc).e = 0 → s2.e = 0 ∧ s2.l = (dn ++ [y]).flatMap enc ++ (kf sc).l ∧ (dn ++ [y]).any bad = false) := fun h => by
            obtain ⟨a1, a2, a3⟩ := HC2.out
            obtain ⟨b1, b2⟩ := hcy.out h
            refine ⟨a1, ?_, ?_⟩
            · rw [a2, b1, List.flatMap_append, List.append_assoc]
              simp
            · rw [List.any_append, a3, List.any_cons, b2]
              rfl
          clear hcy HC2 hok d1 he' he2 k1 k2 k3
          generalize kf sc = s3 at hr3 HM HM2
          unfold Lv.v
          try unfold Hd.v
          go_wp2_with (at_builtin; refine wpList_app1 w3 (by rfl) _ _ 25 (by rfl) w.heap.size 87 i0 _ 2 16 (by kernel_rfl) hi0 hz0 hz1 hz2 rfl (by decide) (by decide) _ k _ (by rfl) hownA #[.int .i64 y.freq, .int .i64 y.power] rfl (by simp [Value.oneCell']) (by rfl) (by omega) (by omega) ?_; intro v' w4 hown4 hf4 hat4)
          have hr4 : RdSt w4 g B s3 := hr3.fr hf4 (fun k hk => Nat.le_trans hBw (hownA.lt k hk).1)
          have hok4 : ∀ x ∈ dn ++ [y], rdLv.ok w4 x := fun x hx => by
            rcases List.mem_append.1 hx with hx | hx
            · exact ftLv.fr (hok3 x hx) hf4 (fun b hb => (hbl x hx b hb).2)
            · obtain rfl := List.mem_singleton.1 hx
              exact ftLv.fr hoy hf4 hby2
          have hbl4 : ∀ x ∈ dn ++ [y], ∀ b, ftLv.blk x b → w.heap.size ≤ b ∧ v'.ownBlock ≠ some b := fun x hx b hb => by
            have hx2 : w.heap.size ≤ b ∧ v.ownBlock ≠ some b ∧ b < w3.heap.size := by
              rcases List.mem_append.1 hx with hx | hx
              · exact ⟨(hbl x hx b hb).1, (hbl x hx b hb).2, hlt3 x hx b hb⟩
              · obtain rfl := List.mem_singleton.1 hx
                exact ⟨Nat.le_trans hsz (hby b hb), hby2 b hb, hlty b hb⟩
            refine ⟨hx2.1, fun e => ?_⟩
            rcases hat4 with h | ⟨g', h, hg'⟩
            · exact hx2.2.1 (h ▸ e)
            · rw [h] at e
              cases e
              omega
          exact ⟨⟨_, k + 1, dn ++ [y], s3, rfl, by omega, by go_num, by simp [hdl], by rw [List.flatMap_append]; simpa [rdLv, Lv.f, Hd.v] using hown4, hok4, hbl4, hr4, (hfw.trans hf3).trans' (hf4.mono (S' := fun k => w.heap.size ≤ k) (fun k _ hk => (hownA.lt k hk).1)) (fun k hk h => by omega), .inl hN5, by omega, HM, HM2⟩, by simp [intOf]; omega⟩
        · have hfin : kL kf s = sc := by
            rw [HL.out, HG.out]
            have : N - k = 0 := by omega
            rw [this]
            rfl
          have HC2 := HC.out he
          have hv2 := HV2.out HC2.1
          have hkn2 : (k : Int) = n := by
            by_cases hk0 : 0 < k
            · have := hkn hk0; omega
            · have := hv2.2; omega
          have HFIN := Lib.hid hfin
          have hkN' : ¬ (k : Int) < n := hkN
          have HE : Hid (sc.e = 0 → s.l = lst enc dn ++ sc.l ∧ badL bad dn = false) := fun _ => by
            refine ⟨?_, ?_⟩
            · rw [hv2.1, HC2.2.1, ← hkn2, ← hdl]
              unfold lst
              rw [List.append_assoc]
            · unfold badL
              rw [HC2.2.2, hdl]
              simp
              omega
          obtain ⟨A9, c9, hv9, hs9, hb9⟩ := SlG.of_own hown (fun x _ => rdLv.len x) hdl
          clear hfin he hbg HG HL HC HC2 hv2
          go_wp2_with fail
          go_ret
          rw [HFIN.out]
          refine ⟨⟨A9, c9, dn⟩, by show Ending.returned (.slice A9 k c9) = .returned (.slice A9 dn.length c9); rw [hdl], ⟨by rw [← hdl] at hs9; exact hs9, hok⟩, fun b hb => ?_, hr, hfw, HE⟩
          rcases hb with ⟨_, o, e⟩ | ⟨x, hx, hb⟩
          · exact hb9 b o e
          · exact (hbl x hx b hb).1
      · have he' : (sc.e == 0) = false := by simpa using he
        have he2 : (sc.e != 0) = true := by simpa using he
        have hfin : kL kf s = sc := by
          rw [HL.out, HG.out, kRep_err he]
        have HFIN := Lib.hid hfin
        have HE : Hid (sc.e = 0 → s.l = lst enc [] ++ sc.l ∧ badL bad ([] : List Lv) = false) := fun h => absurd h he
        clear hfin he hbg HG HL HC
        by_cases hkN : (k : Int) < n
        all_goals
          go_wp2_with fail
          go_ret
          rw [HFIN.out]
          refine ⟨⟨none, 0, []⟩, rfl, ⟨SlG.nil _ _ _, fun x h => by cases h⟩, fun b hb => ?_, hr, hfw, HE⟩
          rcases hb with ⟨h, _⟩ | ⟨x, hx, _⟩
          · exact absurd h (by simp)
          · cases hx
theorem rdSome_Lv {enc : Lv → List UInt8} {bad : Lv → Bool} {kf : RS → RS} (hF : OneR ftLv 100 Lv.v enc bad kf) : ListR ftLv 99 (fun g => #[.pointer (some ⟨g, 0, none⟩), .func (.func 100) #[] #[]]) enc bad kf := by
  intro w g B s h
  go_enter Tryz.func99, Tryz.ntmps99
  go_wp2_with fail
  refine (rdList_Lv hF w g B s h).mono ?_
  rintro e w2 ⟨y, rfl, h1, h2, h3, h4, h5⟩
  go_wp2_with fail
  go_ret
  exact ⟨y, rfl, h1, h2, h3, h4, h5⟩


set_option maxRecDepth 100000 in
set_option maxHeartbeats 8000000 in
theorem rdList_Np {enc : Np → List UInt8} {bad : Np → Bool} {kf : RS → RS} (hF : OneR ftNp 102 Np.v enc bad kf) : ListR ftNp 145 (fun g => #[.pointer (some ⟨g, 0, none⟩), .int .i64 64, .func (.func 102) #[] #[]]) enc bad kf := by
  intro w g B s h
  obtain ⟨i0, hi0, hz0, hz1, hz2⟩ := info_parts NpG_info
  have hBw : B ≤ w.heap.size := by obtain ⟨_, _, _, _, _, h3⟩ := h; exact h3.2.1
  have hgl : g < w.heap.size := by obtain ⟨_, _, _, h1, _, _⟩ := h; exact h1.lt
  have hrg := gInt_rng s
  have HL : Hid (kL kf s = kRep kf (gInt s).1.toNat (kHead s)) := rfl
  have HH : Hid (kHead s = if (gInt s).1 < 0 ∨ 64 < (gInt s).1 then errS (gInt s).2 3 else (gInt s).2) := rfl
  have HV : Hid ((gInt s).2.e = 0 → s.e = 0 ∧ s.l = vint (gInt s).1 ++ (gInt s).2.l) := fun h => gInt_inv h
  go_enter Tryz.func145, Tryz.ntmps145
  go_wp2_with fail
  refine (rdInt_any h).mono ?_
  rintro x w1 ⟨rfl, hr1, hf1⟩
  generalize (gInt s).1 = n at hrg HL HH HV ⊢
  generalize (gInt s).2 = s1 at hr1 HH HV ⊢
  generalize kHead s = s2 at HL HH
  have h3c : n < 0 ∨ (0 ≤ n ∧ 64 < n) ∨ (0 ≤ n ∧ n ≤ 64) := by omega
  rcases h3c with hn0 | ⟨hn0, hn2⟩ | ⟨hn0, hn2⟩
  case' inl =>
    have hs2 := HH.out
    rw [if_pos (by omega)] at hs2
    go_wp2_with fail
    refine (fail_any hr1 3).mono ?_
    rintro x w2 ⟨rfl, hr2, hf2⟩
    rw [← hs2] at hr2
    replace hf2 := hf1.trans hf2
    have hne : s2.e ≠ 0 := by rw [hs2]; unfold errS; split <;> simp_all
    have hbig : n.toNat ≤ 64 ∨ s2.e ≠ 0 := .inr hne
    have HV2 : Hid (s2.e = 0 → s.l = vint n ++ s2.l ∧ 0 ≤ n) := fun h => absurd h hne
    clear hs2 HH hr1 hf1 HV hne
    go_wp2_with fail
    clear hn0
  case' inr.inl =>
    have hn1 : decide (n < 0) = false := by simp; omega
    have hs2 := HH.out
    rw [if_pos (by omega)] at hs2
    go_wp2_with fail
    refine (fail_any hr1 3).mono ?_
    rintro x w2 ⟨rfl, hr2, hf2⟩
    rw [← hs2] at hr2
    replace hf2 := hf1.trans hf2
    have hne : s2.e ≠ 0 := by rw [hs2]; unfold errS; split <;> simp_all
    have hbig : n.toNat ≤ 64 ∨ s2.e ≠ 0 := .inr hne
    have HV2 : Hid (s2.e = 0 → s.l = vint n ++ s2.l ∧ 0 ≤ n) := fun h => absurd h hne
    clear hs2 HH hr1 hf1 HV hne
    go_wp2_with fail
    clear hn2 hn1 hn0
  case' inr.inr =>
    have hs2 := HH.out
    rw [if_neg (by omega)] at hs2
    subst hs2
    have hn1 : decide (n < 0) = false := by simp; omega
    have hn3 : decide (64 < n) = false := by simp; omega
    have hbig : n.toNat ≤ 64 ∨ s2.e ≠ 0 := .inl (by omega)
    have HV2 : Hid (s2.e = 0 → s.l = vint n ++ s2.l ∧ 0 ≤ n) := fun h => ⟨(HV.out h).2, hn0⟩
    generalize w1 = w2 at hr1 hf1 ⊢
    have hr2 := hr1
    have hf2 := hf1
    clear HH hr1 hf1 HV
    go_wp2_with fail
  all_goals
    have hnn : i64 n := hrg
    generalize hN : n.toNat = N at HL hbig
    go_loopw [8, 9] (fun v0 i wr => ∃ (v : Value) (k : Nat) (dn : List Np) (sc : RS), v = v0 ∧ (0 < k → (k : Int) ≤ n) ∧ i = .int .i64 k ∧ dn.length = k ∧ wr.ownsRow w.heap.size 89 3 v k (dn.flatMap rdNp.f) ∧ (∀ x ∈ dn, rdNp.ok wr x) ∧ (∀ x ∈ dn, ∀ b, ftNp.blk x b → w.heap.size ≤ b ∧ v.ownBlock ≠ some b) ∧ RdSt wr g B sc ∧ Fr (fun k => k = g) w wr ∧ (N ≤ 64 ∨ sc.e ≠ 0) ∧ k ≤ 64 ∧ Hid (kRep kf N s2 = kRep kf (N - k) sc) ∧ Hid (sc.e = 0 → s2.e = 0 ∧ s2.l = dn.flatMap enc ++ sc.l ∧ dn.any bad = false)) (fun _ i _ => n.toNat - (intOf i).toNat)
    case atStart => exact ⟨_, 0, [], s2, rfl, by omega, rfl, rfl, World.ownsRow_nil _ _ _ _, (fun x h => by cases h), (fun x h => by cases h), hr2, hf2, hbig, by omega, by unfold Hid; simp, fun h => ⟨h, rfl, rfl⟩⟩
    case round =>
      obtain ⟨v, k, dn, sc, rfl, hkn, rfl, hdl, hown, hok, hbl, hr, hfw, hbg, hk5, HG, HC⟩ := hrel
      have hsz := hfw.size
      have hr' := hr
      obtain ⟨Ar, nr, cr, k1, k2, k3⟩ := hr'
      have hgw := k1.lt
      have d1 : wr.cell? ⟨g, 1, none⟩ = some (.int .i64 sc.e) := k1.cell 1
      by_cases he : sc.e = 0
      · have he' : (sc.e == 0) = true := by simpa using he
        have he2 : (sc.e != 0) = false := by simpa using he
        have hN5 : N ≤ 64 := by
          rcases hbg with h | h
          · exact h
          · exact absurd he h
        by_cases hkN : (k : Int) < n
        · have HM : Hid (kRep kf N s2 = kRep kf (N - (k + 1)) (kf sc)) := by
            unfold Hid
            rw [HG.out, show N - k = (N - (k + 1)) + 1 by omega, kRep_more he]
          have HC2 := Lib.hid (HC.out he)
          clear he hbg HG HC
          go_wp2_with fail
          refine (hF wr g B sc hr).mono ?_
          rintro x w3 ⟨y, rfl, hoy, hby, hr3, hf3, hcy⟩
          have hownA := own_far hown hf3 (fun k hk => by omega)
          have hz3 := hf3.size
          have hne3 : ∀ x ∈ dn, ∀ b, ftNp.blk x b → ¬ b = g := fun x hx b hb e => by have := (hbl x hx b hb).1; omega
          have hok3 : ∀ x ∈ dn, rdNp.ok w3 x := fun x hx => ftNp.fr (hok x hx) hf3 (hne3 x hx)
          have hlt3 : ∀ x ∈ dn, ∀ b, ftNp.blk x b → b < w3.heap.size := fun x hx b hb => ftNp.lt (hok3 x hx) hb
          have hlty : ∀ b, ftNp.blk y b → b < w3.heap.size := fun b hb => ftNp.lt hoy hb
          have hby2 : ∀ b, ftNp.blk y b → v.ownBlock ≠ some b := fun b hb e => by have := (hown.lt b e).2; have := hby b hb; omega
          have HM2 : Hid ((kf sc).e = 0 → s2.e = 0 ∧ s2.l = (dn ++ [y]).flatMap enc ++ (kf sc).l ∧ (dn ++ [y]).any bad = false) := fun h => by
            obtain ⟨a1, a2, a3⟩ := HC2.out
            obtain ⟨b1, b2⟩ := hcy.out h
            refine ⟨a1, ?_, ?_⟩
            · rw [a2, b1, List.flatMap_append, List.append_assoc]
              simp
            · rw [List.any_append, a3, List.any_cons, b2]
              rfl
          clear hcy HC2 hok d1 he' he2 k1 k2 k3
          generalize kf sc = s3 at hr3 HM HM2
          unfold Np.v
          try unfold Hd.v
          go_wp2_with (at_builtin; refine wpList_app1 w3 (by rfl) _ _ 26 (by rfl) w.heap.size 89 i0 _ 3 24 (by kernel_rfl) hi0 hz0 hz1 hz2 rfl (by decide) (by decide) _ k _ (by rfl) hownA #[.int .i64 y.power, .int .i64 y.enter, .int .i64 y.wake] rfl (by simp [Value.oneCell']) (by rfl) (by omega) (by omega) ?_; intro v' w4 hown4 hf4 hat4)
          have hr4 : RdSt w4 g B s3 := hr3.fr hf4 (fun k hk => Nat.le_trans hBw (hownA.lt k hk).1)
          have hok4 : ∀ x ∈ dn ++ [y], rdNp.ok w4 x := fun x hx => by
            rcases List.mem_append.1 hx with hx | hx
            · exact ftNp.fr (hok3 x hx) hf4 (fun b hb => (hbl x hx b hb).2)
            · obtain rfl := List.mem_singleton.1 hx
              exact ftNp.fr hoy hf4 hby2
          have hbl4 : ∀ x ∈ dn ++ [y], ∀ b, ftNp.blk x b → w.heap.size ≤ b ∧ v'.ownBlock ≠ some b := fun x hx b hb => by
            have hx2 : w.heap.size ≤ b ∧ v.ownBlock ≠ some b ∧ b < w3.heap.size := by
              rcases List.mem_append.1 hx with hx | hx
              · exact ⟨(hbl x hx b hb).1, (hbl x hx b hb).2, hlt3 x hx b hb⟩
              · obtain rfl := List.mem_singleton.1 hx
                exact ⟨Nat.le_trans hsz (hby b hb), hby2 b hb, hlty b hb⟩
            refine ⟨hx2.1, fun e => ?_⟩
            rcases hat4 with h | ⟨g', h, hg'⟩
            · exact hx2.2.1 (h ▸ e)
            · rw [h] at e
              cases e
              omega
          exact ⟨⟨_, k + 1, dn ++ [y], s3, rfl, by omega, by go_num, by simp [hdl], by rw [List.flatMap_append]; simpa [rdNp, Np.f, Hd.v] using hown4, hok4, hbl4, hr4, (hfw.trans hf3).trans' (hf4.mono (S' := fun k => w.heap.size ≤ k) (fun k _ hk => (hownA.lt k hk).1)) (fun k hk h => by omega), .inl hN5, by omega, HM, HM2⟩, by simp [intOf]; omega⟩
        · have hfin : kL kf s = sc := by
            rw [HL.out, HG.out]
            have : N - k = 0 := by omega
            rw [this]
            rfl
          have HC2 := HC.out he
          have hv2 := HV2.out HC2.1
          have hkn2 : (k : Int) = n := by
            by_cases hk0 : 0 < k
            · have := hkn hk0; omega
            · have := hv2.2; omega
          have HFIN := Lib.hid hfin
          have hkN' : ¬ (k : Int) < n := hkN
          have HE : Hid (sc.e = 0 → s.l = lst enc dn ++ sc.l ∧ badL bad dn = false) := fun _ => by
            refine ⟨?_, ?_⟩
            · rw [hv2.1, HC2.2.1, ← hkn2, ← hdl]
              unfold lst
              rw [List.append_assoc]
            · unfold badL
              rw [HC2.2.2, hdl]
              simp
              omega
          obtain ⟨A9, c9, hv9, hs9, hb9⟩ := SlG.of_own hown (fun x _ => rdNp.len x) hdl
          clear hfin he hbg HG HL HC HC2 hv2
          go_wp2_with fail
          go_ret
          rw [HFIN.out]
          refine ⟨⟨A9, c9, dn⟩, by show Ending.returned (.slice A9 k c9) = .returned (.slice A9 dn.length c9); rw [hdl], ⟨by rw [← hdl] at hs9; exact hs9, hok⟩, fun b hb => ?_, hr, hfw, HE⟩
          rcases hb with ⟨_, o, e⟩ | ⟨x, hx, hb⟩
          · exact hb9 b o e
          · exact (hbl x hx b hb).1
      · have he' : (sc.e == 0) = false := by simpa using he
        have he2 : (sc.e != 0) = true := by simpa using he
        have hfin : kL kf s = sc := by
          rw [HL.out, HG.out, kRep_err he]
        have HFIN := Lib.hid hfin
        have HE : Hid (sc.e = 0 → s.l = lst enc [] ++ sc.l ∧ badL bad ([] : List Np) = false) := fun h => absurd h he
        clear hfin he hbg HG HL HC
        by_cases hkN : (k : Int) < n
        all_goals
          go_wp2_with fail
          go_ret
          rw [HFIN.out]
          refine ⟨⟨none, 0, []⟩, rfl, ⟨SlG.nil _ _ _, fun x h => by cases h⟩, fun b hb => ?_, hr, hfw, HE⟩
          rcases hb with ⟨h, _⟩ | ⟨x, hx, _⟩
          · exact absurd h (by simp)
          · cases hx
theorem rdSome_Np {enc : Np → List UInt8} {bad : Np → Bool} {kf : RS → RS} (hF : OneR ftNp 102 Np.v enc bad kf) : ListR ftNp 101 (fun g => #[.pointer (some ⟨g, 0, none⟩), .func (.func 102) #[] #[]]) enc bad kf := by
  intro w g B s h
  go_enter Tryz.func101, Tryz.ntmps101
  go_wp2_with fail
  refine (rdList_Np hF w g B s h).mono ?_
  rintro e w2 ⟨y, rfl, h1, h2, h3, h4, h5⟩
  go_wp2_with fail
  go_ret
  exact ⟨y, rfl, h1, h2, h3, h4, h5⟩
end Go.Proofs.YtahjnonkhbpnpaaGreat
/- conf's reader: lists. Printed by wip/gen_rclist.py. -/
namespace Go.Proofs.YtahjnonkhbpnpaaGreat
open Go.RowKit

set_option maxRecDepth 100000 in
set_option maxHeartbeats 8000000 in
theorem rdList_Ch {enc : Ch → List UInt8} {bad : Ch → Bool} {kf : RS → RS} (hF : OneR ftCh 33 Ch.v enc bad kf) : ListR ftCh 95 (fun g => #[.pointer (some ⟨g, 0, none⟩), .int .i64 64, .func (.func 33) #[] #[]]) enc bad kf := by
  intro w g B s h
  obtain ⟨i0, hi0, hz0, hz1, hz2⟩ := info_parts ChG_info
  have hBw : B ≤ w.heap.size := by obtain ⟨_, _, _, _, _, h3⟩ := h; exact h3.2.1
  have hgl : g < w.heap.size := by obtain ⟨_, _, _, h1, _, _⟩ := h; exact h1.lt
  have hrg := gInt_rng s
  have HL : Hid (kL kf s = kRep kf (gInt s).1.toNat (kHead s)) := rfl
  have HH : Hid (kHead s = if (gInt s).1 < 0 ∨ 64 < (gInt s).1 then errS (gInt s).2 3 else (gInt s).2) := rfl
  have HV : Hid ((gInt s).2.e = 0 → s.e = 0 ∧ s.l = vint (gInt s).1 ++ (gInt s).2.l) := fun h => gInt_inv h
  go_enter Tryz.func95, Tryz.ntmps95
  go_wp2_with fail
  refine (rdInt_any h).mono ?_
  rintro x w1 ⟨rfl, hr1, hf1⟩
  generalize (gInt s).1 = n at hrg HL HH HV ⊢
  generalize (gInt s).2 = s1 at hr1 HH HV ⊢
  generalize kHead s = s2 at HL HH
  have h3c : n < 0 ∨ (0 ≤ n ∧ 64 < n) ∨ (0 ≤ n ∧ n ≤ 64) := by omega
  rcases h3c with hn0 | ⟨hn0, hn2⟩ | ⟨hn0, hn2⟩
  case' inl =>
    have hs2 := HH.out
    rw [if_pos (by omega)] at hs2
    go_wp2_with fail
    refine (fail_any hr1 3).mono ?_
    rintro x w2 ⟨rfl, hr2, hf2⟩
    rw [← hs2] at hr2
    replace hf2 := hf1.trans hf2
    have hne : s2.e ≠ 0 := by rw [hs2]; unfold errS; split <;> simp_all
    have hbig : n.toNat ≤ 64 ∨ s2.e ≠ 0 := .inr hne
    have HV2 : Hid (s2.e = 0 → s.l = vint n ++ s2.l ∧ 0 ≤ n) := fun h => absurd h hne
    clear hs2 HH hr1 hf1 HV hne
    go_wp2_with fail
    clear hn0
  case' inr.inl =>
    have hn1 : decide (n < 0) = false := by simp; omega
    have hs2 := HH.out
    rw [if_pos (by omega)] at hs2
    go_wp2_with fail
    refine (fail_any hr1 3).mono ?_
    rintro x w2 ⟨rfl, hr2, hf2⟩
    rw [← hs2] at hr2
    replace hf2 := hf1.trans hf2
    have hne : s2.e ≠ 0 := by rw [hs2]; unfold errS; split <;> simp_all
    have hbig : n.toNat ≤ 64 ∨ s2.e ≠ 0 := .inr hne
    have HV2 : Hid (s2.e = 0 → s.l = vint n ++ s2.l ∧ 0 ≤ n) := fun h => absurd h hne
    clear hs2 HH hr1 hf1 HV hne
    go_wp2_with fail
    clear hn2 hn1 hn0
  case' inr.inr =>
    have hs2 := HH.out
    rw [if_neg (by omega)] at hs2
    subst hs2
    have hn1 : decide (n < 0) = false := by simp; omega
    have hn3 : decide (64 < n) = false := by simp; omega
    have hbig : n.toNat ≤ 64 ∨ s2.e ≠ 0 := .inl (by omega)
    have HV2 : Hid (s2.e = 0 → s.l = vint n ++ s2.l ∧ 0 ≤ n) := fun h => ⟨(HV.out h).2, hn0⟩
    generalize w1 = w2 at hr1 hf1 ⊢
    have hr2 := hr1
    have hf2 := hf1
    clear HH hr1 hf1 HV
    go_wp2_with fail
  all_goals
    have hnn : i64 n := hrg
    generalize hN : n.toNat = N at HL hbig
    go_loopw [8, 9] (fun v0 i wr => ∃ (v : Value) (k : Nat) (dn : List Ch) (sc : RS), v = v0 ∧ (0 < k → (k : Int) ≤ n) ∧ i = .int .i64 k ∧ dn.length = k ∧ wr.ownsRow w.heap.size 72 4 v k (dn.flatMap rdCh.f) ∧ (∀ x ∈ dn, rdCh.ok wr x) ∧ (∀ x ∈ dn, ∀ b, ftCh.blk x b → w.heap.size ≤ b ∧ v.ownBlock ≠ some b) ∧ RdSt wr g B sc ∧ Fr (fun k => k = g) w wr ∧ (N ≤ 64 ∨ sc.e ≠ 0) ∧ k ≤ 64 ∧ Hid (kRep kf N s2 = kRep kf (N - k) sc) ∧ Hid (sc.e = 0 → s2.e = 0 ∧ s2.l = dn.flatMap enc ++ sc.l ∧ dn.any bad = false)) (fun _ i _ => n.toNat - (intOf i).toNat)
    case atStart => exact ⟨_, 0, [], s2, rfl, by omega, rfl, rfl, World.ownsRow_nil _ _ _ _, (fun x h => by cases h), (fun x h => by cases h), hr2, hf2, hbig, by omega, by unfold Hid; simp, fun h => ⟨h, rfl, rfl⟩⟩
    case round =>
      obtain ⟨v, k, dn, sc, rfl, hkn, rfl, hdl, hown, hok, hbl, hr, hfw, hbg, hk5, HG, HC⟩ := hrel
      have hsz := hfw.size
      have hr' := hr
      obtain ⟨Ar, nr, cr, k1, k2, k3⟩ := hr'
      have hgw := k1.lt
      have d1 : wr.cell? ⟨g, 1, none⟩ = some (.int .i64 sc.e) := k1.cell 1
      by_cases he : sc.e = 0
      · have he' : (sc.e == 0) = true := by simpa using he
        have he2 : (sc.e != 0) = false := by simpa using he
        have hN5 : N ≤ 64 := by
          rcases hbg with h | h
          · exact h
          · exact absurd he h
        by_cases hkN : (k : Int) < n
        · have HM : Hid (kRep kf N s2 = kRep kf (N - (k + 1)) (kf sc)) := by
            unfold Hid
            rw [HG.out, show N - k = (N - (k + 1)) + 1 by omega, kRep_more he]
          have HC2 := Lib.hid (HC.out he)
          clear he hbg HG HC
          go_wp2_with fail
          refine (hF wr g B sc hr).mono ?_
          rintro x w3 ⟨y, rfl, hoy, hby, hr3, hf3, hcy⟩
          have hownA := own_far hown hf3 (fun k hk => by omega)
          have hz3 := hf3.size
          have hne3 : ∀ x ∈ dn, ∀ b, ftCh.blk x b → ¬ b = g := fun x hx b hb e => by have := (hbl x hx b hb).1; omega
          have hok3 : ∀ x ∈ dn, rdCh.ok w3 x := fun x hx => ftCh.fr (hok x hx) hf3 (hne3 x hx)
          have hlt3 : ∀ x ∈ dn, ∀ b, ftCh.blk x b → b < w3.heap.size := fun x hx b hb => ftCh.lt (hok3 x hx) hb
          have hlty : ∀ b, ftCh.blk y b → b < w3.heap.size := fun b hb => ftCh.lt hoy hb
          have hby2 : ∀ b, ftCh.blk y b → v.ownBlock ≠ some b := fun b hb e => by have := (hown.lt b e).2; have := hby b hb; omega
          have HM2 : Hid ((kf sc).e = 0 → s2.e = 0 ∧ s2.l = (dn ++ [y]).flatMap enc ++ (kf sc).l ∧ (dn ++ [y]).any bad = false) := fun h => by
            obtain ⟨a1, a2, a3⟩ := HC2.out
            obtain ⟨b1, b2⟩ := hcy.out h
            refine ⟨a1, ?_, ?_⟩
            · rw [a2, b1, List.flatMap_append, List.append_assoc]
              simp
            · rw [List.any_append, a3, List.any_cons, b2]
              rfl
          clear hcy HC2 hok d1 he' he2 k1 k2 k3
          generalize kf sc = s3 at hr3 HM HM2
          unfold Ch.v
          try unfold Hd.v
          go_wp2_with (at_builtin; refine wpList_app1 w3 (by rfl) _ _ 23 (by rfl) w.heap.size 72 i0 _ 4 32 (by kernel_rfl) hi0 hz0 hz1 hz2 rfl (by decide) (by decide) _ k _ (by rfl) hownA #[.int .i64 y.fr.part, .int .i64 y.fr.port, .int .i64 y.to.part, .int .i64 y.to.port] rfl (by simp [Value.oneCell']) (by rfl) (by omega) (by omega) ?_; intro v' w4 hown4 hf4 hat4)
          have hr4 : RdSt w4 g B s3 := hr3.fr hf4 (fun k hk => Nat.le_trans hBw (hownA.lt k hk).1)
          have hok4 : ∀ x ∈ dn ++ [y], rdCh.ok w4 x := fun x hx => by
            rcases List.mem_append.1 hx with hx | hx
            · exact ftCh.fr (hok3 x hx) hf4 (fun b hb => (hbl x hx b hb).2)
            · obtain rfl := List.mem_singleton.1 hx
              exact ftCh.fr hoy hf4 hby2
          have hbl4 : ∀ x ∈ dn ++ [y], ∀ b, ftCh.blk x b → w.heap.size ≤ b ∧ v'.ownBlock ≠ some b := fun x hx b hb => by
            have hx2 : w.heap.size ≤ b ∧ v.ownBlock ≠ some b ∧ b < w3.heap.size := by
              rcases List.mem_append.1 hx with hx | hx
              · exact ⟨(hbl x hx b hb).1, (hbl x hx b hb).2, hlt3 x hx b hb⟩
              · obtain rfl := List.mem_singleton.1 hx
                exact ⟨Nat.le_trans hsz (hby b hb), hby2 b hb, hlty b hb⟩
            refine ⟨hx2.1, fun e => ?_⟩
            rcases hat4 with h | ⟨g', h, hg'⟩
            · exact hx2.2.1 (h ▸ e)
            · rw [h] at e
              cases e
              omega
          exact ⟨⟨_, k + 1, dn ++ [y], s3, rfl, by omega, by go_num, by simp [hdl], by rw [List.flatMap_append]; simpa [rdCh, Ch.f, Hd.v] using hown4, hok4, hbl4, hr4, (hfw.trans hf3).trans' (hf4.mono (S' := fun k => w.heap.size ≤ k) (fun k _ hk => (hownA.lt k hk).1)) (fun k hk h => by omega), .inl hN5, by omega, HM, HM2⟩, by simp [intOf]; omega⟩
        · have hfin : kL kf s = sc := by
            rw [HL.out, HG.out]
            have : N - k = 0 := by omega
            rw [this]
            rfl
          have HC2 := HC.out he
          have hv2 := HV2.out HC2.1
          have hkn2 : (k : Int) = n := by
            by_cases hk0 : 0 < k
            · have := hkn hk0; omega
            · have := hv2.2; omega
          have HFIN := Lib.hid hfin
          have hkN' : ¬ (k : Int) < n := hkN
          have HE : Hid (sc.e = 0 → s.l = lst enc dn ++ sc.l ∧ badL bad dn = false) := fun _ => by
            refine ⟨?_, ?_⟩
            · rw [hv2.1, HC2.2.1, ← hkn2, ← hdl]
              unfold lst
              rw [List.append_assoc]
            · unfold badL
              rw [HC2.2.2, hdl]
              simp
              omega
          obtain ⟨A9, c9, hv9, hs9, hb9⟩ := SlG.of_own hown (fun x _ => rdCh.len x) hdl
          clear hfin he hbg HG HL HC HC2 hv2
          go_wp2_with fail
          go_ret
          rw [HFIN.out]
          refine ⟨⟨A9, c9, dn⟩, by show Ending.returned (.slice A9 k c9) = .returned (.slice A9 dn.length c9); rw [hdl], ⟨by rw [← hdl] at hs9; exact hs9, hok⟩, fun b hb => ?_, hr, hfw, HE⟩
          rcases hb with ⟨_, o, e⟩ | ⟨x, hx, hb⟩
          · exact hb9 b o e
          · exact (hbl x hx b hb).1
      · have he' : (sc.e == 0) = false := by simpa using he
        have he2 : (sc.e != 0) = true := by simpa using he
        have hfin : kL kf s = sc := by
          rw [HL.out, HG.out, kRep_err he]
        have HFIN := Lib.hid hfin
        have HE : Hid (sc.e = 0 → s.l = lst enc [] ++ sc.l ∧ badL bad ([] : List Ch) = false) := fun h => absurd h he
        clear hfin he hbg HG HL HC
        by_cases hkN : (k : Int) < n
        all_goals
          go_wp2_with fail
          go_ret
          rw [HFIN.out]
          refine ⟨⟨none, 0, []⟩, rfl, ⟨SlG.nil _ _ _, fun x h => by cases h⟩, fun b hb => ?_, hr, hfw, HE⟩
          rcases hb with ⟨h, _⟩ | ⟨x, hx, _⟩
          · exact absurd h (by simp)
          · cases hx
theorem rdSome_Ch {enc : Ch → List UInt8} {bad : Ch → Bool} {kf : RS → RS} (hF : OneR ftCh 33 Ch.v enc bad kf) : ListR ftCh 32 (fun g => #[.pointer (some ⟨g, 0, none⟩), .func (.func 33) #[] #[]]) enc bad kf := by
  intro w g B s h
  go_enter Tryz.func32, Tryz.ntmps32
  go_wp2_with fail
  refine (rdList_Ch hF w g B s h).mono ?_
  rintro e w2 ⟨y, rfl, h1, h2, h3, h4, h5⟩
  go_wp2_with fail
  go_ret
  exact ⟨y, rfl, h1, h2, h3, h4, h5⟩


set_option maxRecDepth 100000 in
set_option maxHeartbeats 8000000 in
theorem rdList_Md {enc : Md → List UInt8} {bad : Md → Bool} {kf : RS → RS} (hF : OneR ftMd 36 Md.v enc bad kf) : ListR ftMd 96 (fun g => #[.pointer (some ⟨g, 0, none⟩), .int .i64 64, .func (.func 36) #[] #[]]) enc bad kf := by
  intro w g B s h
  obtain ⟨i0, hi0, hz0, hz1, hz2⟩ := info_parts MdG_info
  have hBw : B ≤ w.heap.size := by obtain ⟨_, _, _, _, _, h3⟩ := h; exact h3.2.1
  have hgl : g < w.heap.size := by obtain ⟨_, _, _, h1, _, _⟩ := h; exact h1.lt
  have hrg := gInt_rng s
  have HL : Hid (kL kf s = kRep kf (gInt s).1.toNat (kHead s)) := rfl
  have HH : Hid (kHead s = if (gInt s).1 < 0 ∨ 64 < (gInt s).1 then errS (gInt s).2 3 else (gInt s).2) := rfl
  have HV : Hid ((gInt s).2.e = 0 → s.e = 0 ∧ s.l = vint (gInt s).1 ++ (gInt s).2.l) := fun h => gInt_inv h
  go_enter Tryz.func96, Tryz.ntmps96
  go_wp2_with fail
  refine (rdInt_any h).mono ?_
  rintro x w1 ⟨rfl, hr1, hf1⟩
  generalize (gInt s).1 = n at hrg HL HH HV ⊢
  generalize (gInt s).2 = s1 at hr1 HH HV ⊢
  generalize kHead s = s2 at HL HH
  have h3c : n < 0 ∨ (0 ≤ n ∧ 64 < n) ∨ (0 ≤ n ∧ n ≤ 64) := by omega
  rcases h3c with hn0 | ⟨hn0, hn2⟩ | ⟨hn0, hn2⟩
  case' inl =>
    have hs2 := HH.out
    rw [if_pos (by omega)] at hs2
    go_wp2_with fail
    refine (fail_any hr1 3).mono ?_
    rintro x w2 ⟨rfl, hr2, hf2⟩
    rw [← hs2] at hr2
    replace hf2 := hf1.trans hf2
    have hne : s2.e ≠ 0 := by rw [hs2]; unfold errS; split <;> simp_all
    have hbig : n.toNat ≤ 64 ∨ s2.e ≠ 0 := .inr hne
    have HV2 : Hid (s2.e = 0 → s.l = vint n ++ s2.l ∧ 0 ≤ n) := fun h => absurd h hne
    clear hs2 HH hr1 hf1 HV hne
    go_wp2_with fail
    clear hn0
  case' inr.inl =>
    have hn1 : decide (n < 0) = false := by simp; omega
    have hs2 := HH.out
    rw [if_pos (by omega)] at hs2
    go_wp2_with fail
    refine (fail_any hr1 3).mono ?_
    rintro x w2 ⟨rfl, hr2, hf2⟩
    rw [← hs2] at hr2
    replace hf2 := hf1.trans hf2
    have hne : s2.e ≠ 0 := by rw [hs2]; unfold errS; split <;> simp_all
    have hbig : n.toNat ≤ 64 ∨ s2.e ≠ 0 := .inr hne
    have HV2 : Hid (s2.e = 0 → s.l = vint n ++ s2.l ∧ 0 ≤ n) := fun h => absurd h hne
    clear hs2 HH hr1 hf1 HV hne
    go_wp2_with fail
    clear hn2 hn1 hn0
  case' inr.inr =>
    have hs2 := HH.out
    rw [if_neg (by omega)] at hs2
    subst hs2
    have hn1 : decide (n < 0) = false := by simp; omega
    have hn3 : decide (64 < n) = false := by simp; omega
    have hbig : n.toNat ≤ 64 ∨ s2.e ≠ 0 := .inl (by omega)
    have HV2 : Hid (s2.e = 0 → s.l = vint n ++ s2.l ∧ 0 ≤ n) := fun h => ⟨(HV.out h).2, hn0⟩
    generalize w1 = w2 at hr1 hf1 ⊢
    have hr2 := hr1
    have hf2 := hf1
    clear HH hr1 hf1 HV
    go_wp2_with fail
  all_goals
    have hnn : i64 n := hrg
    generalize hN : n.toNat = N at HL hbig
    go_loopw [8, 9] (fun v0 i wr => ∃ (v : Value) (k : Nat) (dn : List Md) (sc : RS), v = v0 ∧ (0 < k → (k : Int) ≤ n) ∧ i = .int .i64 k ∧ dn.length = k ∧ wr.ownsRow w.heap.size 58 2 v k (dn.flatMap rdMd.f) ∧ (∀ x ∈ dn, rdMd.ok wr x) ∧ (∀ x ∈ dn, ∀ b, ftMd.blk x b → w.heap.size ≤ b ∧ v.ownBlock ≠ some b) ∧ RdSt wr g B sc ∧ Fr (fun k => k = g) w wr ∧ (N ≤ 64 ∨ sc.e ≠ 0) ∧ k ≤ 64 ∧ Hid (kRep kf N s2 = kRep kf (N - k) sc) ∧ Hid (sc.e = 0 → s2.e = 0 ∧ s2.l = dn.flatMap enc ++ sc.l ∧ dn.any bad = false)) (fun _ i _ => n.toNat - (intOf i).toNat)
    case atStart => exact ⟨_, 0, [], s2, rfl, by omega, rfl, rfl, World.ownsRow_nil _ _ _ _, (fun x h => by cases h), (fun x h => by cases h), hr2, hf2, hbig, by omega, by unfold Hid; simp, fun h => ⟨h, rfl, rfl⟩⟩
    case round =>
      obtain ⟨v, k, dn, sc, rfl, hkn, rfl, hdl, hown, hok, hbl, hr, hfw, hbg, hk5, HG, HC⟩ := hrel
      have hsz := hfw.size
      have hr' := hr
      obtain ⟨Ar, nr, cr, k1, k2, k3⟩ := hr'
      have hgw := k1.lt
      have d1 : wr.cell? ⟨g, 1, none⟩ = some (.int .i64 sc.e) := k1.cell 1
      by_cases he : sc.e = 0
      · have he' : (sc.e == 0) = true := by simpa using he
        have he2 : (sc.e != 0) = false := by simpa using he
        have hN5 : N ≤ 64 := by
          rcases hbg with h | h
          · exact h
          · exact absurd he h
        by_cases hkN : (k : Int) < n
        · have HM : Hid (kRep kf N s2 = kRep kf (N - (k + 1)) (kf sc)) := by
            unfold Hid
            rw [HG.out, show N - k = (N - (k + 1)) + 1 by omega, kRep_more he]
          have HC2 := Lib.hid (HC.out he)
          clear he hbg HG HC
          go_wp2_with fail
          refine (hF wr g B sc hr).mono ?_
          rintro x w3 ⟨y, rfl, hoy, hby, hr3, hf3, hcy⟩
          have hownA := own_far hown hf3 (fun k hk => by omega)
          have hz3 := hf3.size
          have hne3 : ∀ x ∈ dn, ∀ b, ftMd.blk x b → ¬ b = g := fun x hx b hb e => by have := (hbl x hx b hb).1; omega
          have hok3 : ∀ x ∈ dn, rdMd.ok w3 x := fun x hx => ftMd.fr (hok x hx) hf3 (hne3 x hx)
          have hlt3 : ∀ x ∈ dn, ∀ b, ftMd.blk x b → b < w3.heap.size := fun x hx b hb => ftMd.lt (hok3 x hx) hb
          have hlty : ∀ b, ftMd.blk y b → b < w3.heap.size := fun b hb => ftMd.lt hoy hb
          have hby2 : ∀ b, ftMd.blk y b → v.ownBlock ≠ some b := fun b hb e => by have := (hown.lt b e).2; have := hby b hb; omega
          have HM2 : Hid ((kf sc).e = 0 → s2.e = 0 ∧ s2.l = (dn ++ [y]).flatMap enc ++ (kf sc).l ∧ (dn ++ [y]).any bad = false) := fun h => by
            obtain ⟨a1, a2, a3⟩ := HC2.out
            obtain ⟨b1, b2⟩ := hcy.out h
            refine ⟨a1, ?_, ?_⟩
            · rw [a2, b1, List.flatMap_append, List.append_assoc]
              simp
            · rw [List.any_append, a3, List.any_cons, b2]
              rfl
          clear hcy HC2 hok d1 he' he2 k1 k2 k3
          generalize kf sc = s3 at hr3 HM HM2
          unfold Md.v
          try unfold Hd.v
          go_wp2_with (at_builtin; refine wpList_app1 w3 (by rfl) _ _ 24 (by rfl) w.heap.size 58 i0 _ 2 32 (by kernel_rfl) hi0 hz0 hz1 hz2 rfl (by decide) (by decide) _ k _ (by rfl) hownA #[.int .i64 y.frame, .slice y.wins.A y.wins.l.length y.wins.c] rfl (by simp [Value.oneCell']) (by rfl) (by omega) (by omega) ?_; intro v' w4 hown4 hf4 hat4)
          have hr4 : RdSt w4 g B s3 := hr3.fr hf4 (fun k hk => Nat.le_trans hBw (hownA.lt k hk).1)
          have hok4 : ∀ x ∈ dn ++ [y], rdMd.ok w4 x := fun x hx => by
            rcases List.mem_append.1 hx with hx | hx
            · exact ftMd.fr (hok3 x hx) hf4 (fun b hb => (hbl x hx b hb).2)
            · obtain rfl := List.mem_singleton.1 hx
              exact ftMd.fr hoy hf4 hby2
          have hbl4 : ∀ x ∈ dn ++ [y], ∀ b, ftMd.blk x b → w.heap.size ≤ b ∧ v'.ownBlock ≠ some b := fun x hx b hb => by
            have hx2 : w.heap.size ≤ b ∧ v.ownBlock ≠ some b ∧ b < w3.heap.size := by
              rcases List.mem_append.1 hx with hx | hx
              · exact ⟨(hbl x hx b hb).1, (hbl x hx b hb).2, hlt3 x hx b hb⟩
              · obtain rfl := List.mem_singleton.1 hx
                exact ⟨Nat.le_trans hsz (hby b hb), hby2 b hb, hlty b hb⟩
            refine ⟨hx2.1, fun e => ?_⟩
            rcases hat4 with h | ⟨g', h, hg'⟩
            · exact hx2.2.1 (h ▸ e)
            · rw [h] at e
              cases e
              omega
          exact ⟨⟨_, k + 1, dn ++ [y], s3, rfl, by omega, by go_num, by simp [hdl], by rw [List.flatMap_append]; simpa [rdMd, Md.f, Hd.v] using hown4, hok4, hbl4, hr4, (hfw.trans hf3).trans' (hf4.mono (S' := fun k => w.heap.size ≤ k) (fun k _ hk => (hownA.lt k hk).1)) (fun k hk h => by omega), .inl hN5, by omega, HM, HM2⟩, by simp [intOf]; omega⟩
        · have hfin : kL kf s = sc := by
            rw [HL.out, HG.out]
            have : N - k = 0 := by omega
            rw [this]
            rfl
          have HC2 := HC.out he
          have hv2 := HV2.out HC2.1
          have hkn2 : (k : Int) = n := by
            by_cases hk0 : 0 < k
            · have := hkn hk0; omega
            · have := hv2.2; omega
          have HFIN := Lib.hid hfin
          have hkN' : ¬ (k : Int) < n := hkN
          have HE : Hid (sc.e = 0 → s.l = lst enc dn ++ sc.l ∧ badL bad dn = false) := fun _ => by
            refine ⟨?_, ?_⟩
            · rw [hv2.1, HC2.2.1, ← hkn2, ← hdl]
              unfold lst
              rw [List.append_assoc]
            · unfold badL
              rw [HC2.2.2, hdl]
              simp
              omega
          obtain ⟨A9, c9, hv9, hs9, hb9⟩ := SlG.of_own hown (fun x _ => rdMd.len x) hdl
          clear hfin he hbg HG HL HC HC2 hv2
          go_wp2_with fail
          go_ret
          rw [HFIN.out]
          refine ⟨⟨A9, c9, dn⟩, by show Ending.returned (.slice A9 k c9) = .returned (.slice A9 dn.length c9); rw [hdl], ⟨by rw [← hdl] at hs9; exact hs9, hok⟩, fun b hb => ?_, hr, hfw, HE⟩
          rcases hb with ⟨_, o, e⟩ | ⟨x, hx, hb⟩
          · exact hb9 b o e
          · exact (hbl x hx b hb).1
      · have he' : (sc.e == 0) = false := by simpa using he
        have he2 : (sc.e != 0) = true := by simpa using he
        have hfin : kL kf s = sc := by
          rw [HL.out, HG.out, kRep_err he]
        have HFIN := Lib.hid hfin
        have HE : Hid (sc.e = 0 → s.l = lst enc [] ++ sc.l ∧ badL bad ([] : List Md) = false) := fun h => absurd h he
        clear hfin he hbg HG HL HC
        by_cases hkN : (k : Int) < n
        all_goals
          go_wp2_with fail
          go_ret
          rw [HFIN.out]
          refine ⟨⟨none, 0, []⟩, rfl, ⟨SlG.nil _ _ _, fun x h => by cases h⟩, fun b hb => ?_, hr, hfw, HE⟩
          rcases hb with ⟨h, _⟩ | ⟨x, hx, _⟩
          · exact absurd h (by simp)
          · cases hx
theorem rdSome_Md {enc : Md → List UInt8} {bad : Md → Bool} {kf : RS → RS} (hF : OneR ftMd 36 Md.v enc bad kf) : ListR ftMd 35 (fun g => #[.pointer (some ⟨g, 0, none⟩), .func (.func 36) #[] #[]]) enc bad kf := by
  intro w g B s h
  go_enter Tryz.func35, Tryz.ntmps35
  go_wp2_with fail
  refine (rdList_Md hF w g B s h).mono ?_
  rintro e w2 ⟨y, rfl, h1, h2, h3, h4, h5⟩
  go_wp2_with fail
  go_ret
  exact ⟨y, rfl, h1, h2, h3, h4, h5⟩


set_option maxRecDepth 100000 in
set_option maxHeartbeats 8000000 in
theorem rdList_Pt {enc : Pt → List UInt8} {bad : Pt → Bool} {kf : RS → RS} (hF : OneR ftPt 31 Pt.v enc bad kf) : ListR ftPt 82 (fun g => #[.pointer (some ⟨g, 0, none⟩), .int .i64 64, .func (.func 31) #[] #[]]) enc bad kf := by
  intro w g B s h
  obtain ⟨i0, hi0, hz0, hz1, hz2⟩ := info_parts PtG_info
  have hBw : B ≤ w.heap.size := by obtain ⟨_, _, _, _, _, h3⟩ := h; exact h3.2.1
  have hgl : g < w.heap.size := by obtain ⟨_, _, _, h1, _, _⟩ := h; exact h1.lt
  have hrg := gInt_rng s
  have HL : Hid (kL kf s = kRep kf (gInt s).1.toNat (kHead s)) := rfl
  have HH : Hid (kHead s = if (gInt s).1 < 0 ∨ 64 < (gInt s).1 then errS (gInt s).2 3 else (gInt s).2) := rfl
  have HV : Hid ((gInt s).2.e = 0 → s.e = 0 ∧ s.l = vint (gInt s).1 ++ (gInt s).2.l) := fun h => gInt_inv h
  go_enter Tryz.func82, Tryz.ntmps82
  go_wp2_with fail
  refine (rdInt_any h).mono ?_
  rintro x w1 ⟨rfl, hr1, hf1⟩
  generalize (gInt s).1 = n at hrg HL HH HV ⊢
  generalize (gInt s).2 = s1 at hr1 HH HV ⊢
  generalize kHead s = s2 at HL HH
  have h3c : n < 0 ∨ (0 ≤ n ∧ 64 < n) ∨ (0 ≤ n ∧ n ≤ 64) := by omega
  rcases h3c with hn0 | ⟨hn0, hn2⟩ | ⟨hn0, hn2⟩
  case' inl =>
    have hs2 := HH.out
    rw [if_pos (by omega)] at hs2
    go_wp2_with fail
    refine (fail_any hr1 3).mono ?_
    rintro x w2 ⟨rfl, hr2, hf2⟩
    rw [← hs2] at hr2
    replace hf2 := hf1.trans hf2
    have hne : s2.e ≠ 0 := by rw [hs2]; unfold errS; split <;> simp_all
    have hbig : n.toNat ≤ 64 ∨ s2.e ≠ 0 := .inr hne
    have HV2 : Hid (s2.e = 0 → s.l = vint n ++ s2.l ∧ 0 ≤ n) := fun h => absurd h hne
    clear hs2 HH hr1 hf1 HV hne
    go_wp2_with fail
    clear hn0
  case' inr.inl =>
    have hn1 : decide (n < 0) = false := by simp; omega
    have hs2 := HH.out
    rw [if_pos (by omega)] at hs2
    go_wp2_with fail
    refine (fail_any hr1 3).mono ?_
    rintro x w2 ⟨rfl, hr2, hf2⟩
    rw [← hs2] at hr2
    replace hf2 := hf1.trans hf2
    have hne : s2.e ≠ 0 := by rw [hs2]; unfold errS; split <;> simp_all
    have hbig : n.toNat ≤ 64 ∨ s2.e ≠ 0 := .inr hne
    have HV2 : Hid (s2.e = 0 → s.l = vint n ++ s2.l ∧ 0 ≤ n) := fun h => absurd h hne
    clear hs2 HH hr1 hf1 HV hne
    go_wp2_with fail
    clear hn2 hn1 hn0
  case' inr.inr =>
    have hs2 := HH.out
    rw [if_neg (by omega)] at hs2
    subst hs2
    have hn1 : decide (n < 0) = false := by simp; omega
    have hn3 : decide (64 < n) = false := by simp; omega
    have hbig : n.toNat ≤ 64 ∨ s2.e ≠ 0 := .inl (by omega)
    have HV2 : Hid (s2.e = 0 → s.l = vint n ++ s2.l ∧ 0 ≤ n) := fun h => ⟨(HV.out h).2, hn0⟩
    generalize w1 = w2 at hr1 hf1 ⊢
    have hr2 := hr1
    have hf2 := hf1
    clear HH hr1 hf1 HV
    go_wp2_with fail
  all_goals
    have hnn : i64 n := hrg
    generalize hN : n.toNat = N at HL hbig
    go_loopw [8, 9] (fun v0 i wr => ∃ (v : Value) (k : Nat) (dn : List Pt) (sc : RS), v = v0 ∧ (0 < k → (k : Int) ≤ n) ∧ i = .int .i64 k ∧ dn.length = k ∧ wr.ownsRow w.heap.size 55 11 v k (dn.flatMap rdPt.f) ∧ (∀ x ∈ dn, rdPt.ok wr x) ∧ (∀ x ∈ dn, ∀ b, ftPt.blk x b → w.heap.size ≤ b ∧ v.ownBlock ≠ some b) ∧ RdSt wr g B sc ∧ Fr (fun k => k = g) w wr ∧ (N ≤ 64 ∨ sc.e ≠ 0) ∧ k ≤ 64 ∧ Hid (kRep kf N s2 = kRep kf (N - k) sc) ∧ Hid (sc.e = 0 → s2.e = 0 ∧ s2.l = dn.flatMap enc ++ sc.l ∧ dn.any bad = false)) (fun _ i _ => n.toNat - (intOf i).toNat)
    case atStart => exact ⟨_, 0, [], s2, rfl, by omega, rfl, rfl, World.ownsRow_nil _ _ _ _, (fun x h => by cases h), (fun x h => by cases h), hr2, hf2, hbig, by omega, by unfold Hid; simp, fun h => ⟨h, rfl, rfl⟩⟩
    case round =>
      obtain ⟨v, k, dn, sc, rfl, hkn, rfl, hdl, hown, hok, hbl, hr, hfw, hbg, hk5, HG, HC⟩ := hrel
      have hsz := hfw.size
      have hr' := hr
      obtain ⟨Ar, nr, cr, k1, k2, k3⟩ := hr'
      have hgw := k1.lt
      have d1 : wr.cell? ⟨g, 1, none⟩ = some (.int .i64 sc.e) := k1.cell 1
      by_cases he : sc.e = 0
      · have he' : (sc.e == 0) = true := by simpa using he
        have he2 : (sc.e != 0) = false := by simpa using he
        have hN5 : N ≤ 64 := by
          rcases hbg with h | h
          · exact h
          · exact absurd he h
        by_cases hkN : (k : Int) < n
        · have HM : Hid (kRep kf N s2 = kRep kf (N - (k + 1)) (kf sc)) := by
            unfold Hid
            rw [HG.out, show N - k = (N - (k + 1)) + 1 by omega, kRep_more he]
          have HC2 := Lib.hid (HC.out he)
          clear he hbg HG HC
          go_wp2_with fail
          refine (hF wr g B sc hr).mono ?_
          rintro x w3 ⟨y, rfl, hoy, hby, hr3, hf3, hcy⟩
          have hownA := own_far hown hf3 (fun k hk => by omega)
          have hz3 := hf3.size
          have hne3 : ∀ x ∈ dn, ∀ b, ftPt.blk x b → ¬ b = g := fun x hx b hb e => by have := (hbl x hx b hb).1; omega
          have hok3 : ∀ x ∈ dn, rdPt.ok w3 x := fun x hx => ftPt.fr (hok x hx) hf3 (hne3 x hx)
          have hlt3 : ∀ x ∈ dn, ∀ b, ftPt.blk x b → b < w3.heap.size := fun x hx b hb => ftPt.lt (hok3 x hx) hb
          have hlty : ∀ b, ftPt.blk y b → b < w3.heap.size := fun b hb => ftPt.lt hoy hb
          have hby2 : ∀ b, ftPt.blk y b → v.ownBlock ≠ some b := fun b hb e => by have := (hown.lt b e).2; have := hby b hb; omega
          have HM2 : Hid ((kf sc).e = 0 → s2.e = 0 ∧ s2.l = (dn ++ [y]).flatMap enc ++ (kf sc).l ∧ (dn ++ [y]).any bad = false) := fun h => by
            obtain ⟨a1, a2, a3⟩ := HC2.out
            obtain ⟨b1, b2⟩ := hcy.out h
            refine ⟨a1, ?_, ?_⟩
            · rw [a2, b1, List.flatMap_append, List.append_assoc]
              simp
            · rw [List.any_append, a3, List.any_cons, b2]
              rfl
          clear hcy HC2 hok d1 he' he2 k1 k2 k3
          generalize kf sc = s3 at hr3 HM HM2
          unfold Pt.v
          try unfold Hd.v
          go_wp2_with (at_builtin; refine wpList_app1 w3 (by rfl) _ _ 22 (by rfl) w.heap.size 55 i0 _ 11 200 (by kernel_rfl) hi0 hz0 hz1 hz2 rfl (by decide) (by decide) _ k _ (by rfl) hownA #[.slice y.regs.A y.regs.l.length y.regs.c, .slice y.procs.A y.procs.l.length y.procs.c, .slice y.ports.A y.ports.l.length y.ports.c, .slice y.sems.A y.sems.l.length y.sems.c, .int .i64 y.flags, .slice y.pools.A y.pools.l.length y.pools.c, .slice y.slates.A y.slates.l.length y.slates.c, .int .i64 y.cap, .int .i64 y.bud, .int .i64 y.lad, .slice y.acts.A y.acts.l.length y.acts.c] rfl (by simp [Value.oneCell']) (by rfl) (by omega) (by omega) ?_; intro v' w4 hown4 hf4 hat4)
          have hr4 : RdSt w4 g B s3 := hr3.fr hf4 (fun k hk => Nat.le_trans hBw (hownA.lt k hk).1)
          have hok4 : ∀ x ∈ dn ++ [y], rdPt.ok w4 x := fun x hx => by
            rcases List.mem_append.1 hx with hx | hx
            · exact ftPt.fr (hok3 x hx) hf4 (fun b hb => (hbl x hx b hb).2)
            · obtain rfl := List.mem_singleton.1 hx
              exact ftPt.fr hoy hf4 hby2
          have hbl4 : ∀ x ∈ dn ++ [y], ∀ b, ftPt.blk x b → w.heap.size ≤ b ∧ v'.ownBlock ≠ some b := fun x hx b hb => by
            have hx2 : w.heap.size ≤ b ∧ v.ownBlock ≠ some b ∧ b < w3.heap.size := by
              rcases List.mem_append.1 hx with hx | hx
              · exact ⟨(hbl x hx b hb).1, (hbl x hx b hb).2, hlt3 x hx b hb⟩
              · obtain rfl := List.mem_singleton.1 hx
                exact ⟨Nat.le_trans hsz (hby b hb), hby2 b hb, hlty b hb⟩
            refine ⟨hx2.1, fun e => ?_⟩
            rcases hat4 with h | ⟨g', h, hg'⟩
            · exact hx2.2.1 (h ▸ e)
            · rw [h] at e
              cases e
              omega
          exact ⟨⟨_, k + 1, dn ++ [y], s3, rfl, by omega, by go_num, by simp [hdl], by rw [List.flatMap_append]; simpa [rdPt, Pt.f, Hd.v] using hown4, hok4, hbl4, hr4, (hfw.trans hf3).trans' (hf4.mono (S' := fun k => w.heap.size ≤ k) (fun k _ hk => (hownA.lt k hk).1)) (fun k hk h => by omega), .inl hN5, by omega, HM, HM2⟩, by simp [intOf]; omega⟩
        · have hfin : kL kf s = sc := by
            rw [HL.out, HG.out]
            have : N - k = 0 := by omega
            rw [this]
            rfl
          have HC2 := HC.out he
          have hv2 := HV2.out HC2.1
          have hkn2 : (k : Int) = n := by
            by_cases hk0 : 0 < k
            · have := hkn hk0; omega
            · have := hv2.2; omega
          have HFIN := Lib.hid hfin
          have hkN' : ¬ (k : Int) < n := hkN
          have HE : Hid (sc.e = 0 → s.l = lst enc dn ++ sc.l ∧ badL bad dn = false) := fun _ => by
            refine ⟨?_, ?_⟩
            · rw [hv2.1, HC2.2.1, ← hkn2, ← hdl]
              unfold lst
              rw [List.append_assoc]
            · unfold badL
              rw [HC2.2.2, hdl]
              simp
              omega
          obtain ⟨A9, c9, hv9, hs9, hb9⟩ := SlG.of_own hown (fun x _ => rdPt.len x) hdl
          clear hfin he hbg HG HL HC HC2 hv2
          go_wp2_with fail
          go_ret
          rw [HFIN.out]
          refine ⟨⟨A9, c9, dn⟩, by show Ending.returned (.slice A9 k c9) = .returned (.slice A9 dn.length c9); rw [hdl], ⟨by rw [← hdl] at hs9; exact hs9, hok⟩, fun b hb => ?_, hr, hfw, HE⟩
          rcases hb with ⟨_, o, e⟩ | ⟨x, hx, hb⟩
          · exact hb9 b o e
          · exact (hbl x hx b hb).1
      · have he' : (sc.e == 0) = false := by simpa using he
        have he2 : (sc.e != 0) = true := by simpa using he
        have hfin : kL kf s = sc := by
          rw [HL.out, HG.out, kRep_err he]
        have HFIN := Lib.hid hfin
        have HE : Hid (sc.e = 0 → s.l = lst enc [] ++ sc.l ∧ badL bad ([] : List Pt) = false) := fun h => absurd h he
        clear hfin he hbg HG HL HC
        by_cases hkN : (k : Int) < n
        all_goals
          go_wp2_with fail
          go_ret
          rw [HFIN.out]
          refine ⟨⟨none, 0, []⟩, rfl, ⟨SlG.nil _ _ _, fun x h => by cases h⟩, fun b hb => ?_, hr, hfw, HE⟩
          rcases hb with ⟨h, _⟩ | ⟨x, hx, _⟩
          · exact absurd h (by simp)
          · cases hx
theorem rdSome_Pt {enc : Pt → List UInt8} {bad : Pt → Bool} {kf : RS → RS} (hF : OneR ftPt 31 Pt.v enc bad kf) : ListR ftPt 30 (fun g => #[.pointer (some ⟨g, 0, none⟩), .func (.func 31) #[] #[]]) enc bad kf := by
  intro w g B s h
  go_enter Tryz.func30, Tryz.ntmps30
  go_wp2_with fail
  refine (rdList_Pt hF w g B s h).mono ?_
  rintro e w2 ⟨y, rfl, h1, h2, h3, h4, h5⟩
  go_wp2_with fail
  go_ret
  exact ⟨y, rfl, h1, h2, h3, h4, h5⟩


set_option maxRecDepth 100000 in
set_option maxHeartbeats 8000000 in
theorem rdList_Int {enc : Int → List UInt8} {bad : Int → Bool} {kf : RS → RS} (hF : OneR ftInt 39 (fun z => .int .i64 z) enc bad kf) : ListR ftInt 103 (fun g => #[.pointer (some ⟨g, 0, none⟩), .int .i64 64, .func (.func 39) #[] #[]]) enc bad kf := by
  intro w g B s h
  obtain ⟨i0, hi0, hz0, hz1, hz2⟩ := info_parts IntG_info
  have hBw : B ≤ w.heap.size := by obtain ⟨_, _, _, _, _, h3⟩ := h; exact h3.2.1
  have hgl : g < w.heap.size := by obtain ⟨_, _, _, h1, _, _⟩ := h; exact h1.lt
  have hrg := gInt_rng s
  have HL : Hid (kL kf s = kRep kf (gInt s).1.toNat (kHead s)) := rfl
  have HH : Hid (kHead s = if (gInt s).1 < 0 ∨ 64 < (gInt s).1 then errS (gInt s).2 3 else (gInt s).2) := rfl
  have HV : Hid ((gInt s).2.e = 0 → s.e = 0 ∧ s.l = vint (gInt s).1 ++ (gInt s).2.l) := fun h => gInt_inv h
  go_enter Tryz.func103, Tryz.ntmps103
  go_wp2_with fail
  refine (rdInt_any h).mono ?_
  rintro x w1 ⟨rfl, hr1, hf1⟩
  generalize (gInt s).1 = n at hrg HL HH HV ⊢
  generalize (gInt s).2 = s1 at hr1 HH HV ⊢
  generalize kHead s = s2 at HL HH
  have h3c : n < 0 ∨ (0 ≤ n ∧ 64 < n) ∨ (0 ≤ n ∧ n ≤ 64) := by omega
  rcases h3c with hn0 | ⟨hn0, hn2⟩ | ⟨hn0, hn2⟩
  case' inl =>
    have hs2 := HH.out
    rw [if_pos (by omega)] at hs2
    go_wp2_with fail
    refine (fail_any hr1 3).mono ?_
    rintro x w2 ⟨rfl, hr2, hf2⟩
    rw [← hs2] at hr2
    replace hf2 := hf1.trans hf2
    have hne : s2.e ≠ 0 := by rw [hs2]; unfold errS; split <;> simp_all
    have hbig : n.toNat ≤ 64 ∨ s2.e ≠ 0 := .inr hne
    have HV2 : Hid (s2.e = 0 → s.l = vint n ++ s2.l ∧ 0 ≤ n) := fun h => absurd h hne
    clear hs2 HH hr1 hf1 HV hne
    go_wp2_with fail
    clear hn0
  case' inr.inl =>
    have hn1 : decide (n < 0) = false := by simp; omega
    have hs2 := HH.out
    rw [if_pos (by omega)] at hs2
    go_wp2_with fail
    refine (fail_any hr1 3).mono ?_
    rintro x w2 ⟨rfl, hr2, hf2⟩
    rw [← hs2] at hr2
    replace hf2 := hf1.trans hf2
    have hne : s2.e ≠ 0 := by rw [hs2]; unfold errS; split <;> simp_all
    have hbig : n.toNat ≤ 64 ∨ s2.e ≠ 0 := .inr hne
    have HV2 : Hid (s2.e = 0 → s.l = vint n ++ s2.l ∧ 0 ≤ n) := fun h => absurd h hne
    clear hs2 HH hr1 hf1 HV hne
    go_wp2_with fail
    clear hn2 hn1 hn0
  case' inr.inr =>
    have hs2 := HH.out
    rw [if_neg (by omega)] at hs2
    subst hs2
    have hn1 : decide (n < 0) = false := by simp; omega
    have hn3 : decide (64 < n) = false := by simp; omega
    have hbig : n.toNat ≤ 64 ∨ s2.e ≠ 0 := .inl (by omega)
    have HV2 : Hid (s2.e = 0 → s.l = vint n ++ s2.l ∧ 0 ≤ n) := fun h => ⟨(HV.out h).2, hn0⟩
    generalize w1 = w2 at hr1 hf1 ⊢
    have hr2 := hr1
    have hf2 := hf1
    clear HH hr1 hf1 HV
    go_wp2_with fail
  all_goals
    have hnn : i64 n := hrg
    generalize hN : n.toNat = N at HL hbig
    go_loopw [8, 9] (fun v0 i wr => ∃ (v : Value) (k : Nat) (dn : List Int) (sc : RS), v = v0 ∧ (0 < k → (k : Int) ≤ n) ∧ i = .int .i64 k ∧ dn.length = k ∧ wr.ownsRow w.heap.size 3 1 v k (dn.flatMap rdInt.f) ∧ (∀ x ∈ dn, rdInt.ok wr x) ∧ (∀ x ∈ dn, ∀ b, ftInt.blk x b → w.heap.size ≤ b ∧ v.ownBlock ≠ some b) ∧ RdSt wr g B sc ∧ Fr (fun k => k = g) w wr ∧ (N ≤ 64 ∨ sc.e ≠ 0) ∧ k ≤ 64 ∧ Hid (kRep kf N s2 = kRep kf (N - k) sc) ∧ Hid (sc.e = 0 → s2.e = 0 ∧ s2.l = dn.flatMap enc ++ sc.l ∧ dn.any bad = false)) (fun _ i _ => n.toNat - (intOf i).toNat)
    case atStart => exact ⟨_, 0, [], s2, rfl, by omega, rfl, rfl, World.ownsRow_nil _ _ _ _, (fun x h => by cases h), (fun x h => by cases h), hr2, hf2, hbig, by omega, by unfold Hid; simp, fun h => ⟨h, rfl, rfl⟩⟩
    case round =>
      obtain ⟨v, k, dn, sc, rfl, hkn, rfl, hdl, hown, hok, hbl, hr, hfw, hbg, hk5, HG, HC⟩ := hrel
      have hsz := hfw.size
      have hr' := hr
      obtain ⟨Ar, nr, cr, k1, k2, k3⟩ := hr'
      have hgw := k1.lt
      have d1 : wr.cell? ⟨g, 1, none⟩ = some (.int .i64 sc.e) := k1.cell 1
      by_cases he : sc.e = 0
      · have he' : (sc.e == 0) = true := by simpa using he
        have he2 : (sc.e != 0) = false := by simpa using he
        have hN5 : N ≤ 64 := by
          rcases hbg with h | h
          · exact h
          · exact absurd he h
        by_cases hkN : (k : Int) < n
        · have HM : Hid (kRep kf N s2 = kRep kf (N - (k + 1)) (kf sc)) := by
            unfold Hid
            rw [HG.out, show N - k = (N - (k + 1)) + 1 by omega, kRep_more he]
          have HC2 := Lib.hid (HC.out he)
          clear he hbg HG HC
          go_wp2_with fail
          refine (hF wr g B sc hr).mono ?_
          rintro x w3 ⟨y, rfl, hoy, hby, hr3, hf3, hcy⟩
          have hownA := own_far hown hf3 (fun k hk => by omega)
          have hz3 := hf3.size
          have hne3 : ∀ x ∈ dn, ∀ b, ftInt.blk x b → ¬ b = g := fun x hx b hb e => by have := (hbl x hx b hb).1; omega
          have hok3 : ∀ x ∈ dn, rdInt.ok w3 x := fun x hx => ftInt.fr (hok x hx) hf3 (hne3 x hx)
          have hlt3 : ∀ x ∈ dn, ∀ b, ftInt.blk x b → b < w3.heap.size := fun x hx b hb => ftInt.lt (hok3 x hx) hb
          have hlty : ∀ b, ftInt.blk y b → b < w3.heap.size := fun b hb => ftInt.lt hoy hb
          have hby2 : ∀ b, ftInt.blk y b → v.ownBlock ≠ some b := fun b hb e => by have := (hown.lt b e).2; have := hby b hb; omega
          have HM2 : Hid ((kf sc).e = 0 → s2.e = 0 ∧ s2.l = (dn ++ [y]).flatMap enc ++ (kf sc).l ∧ (dn ++ [y]).any bad = false) := fun h => by
            obtain ⟨a1, a2, a3⟩ := HC2.out
            obtain ⟨b1, b2⟩ := hcy.out h
            refine ⟨a1, ?_, ?_⟩
            · rw [a2, b1, List.flatMap_append, List.append_assoc]
              simp
            · rw [List.any_append, a3, List.any_cons, b2]
              rfl
          clear hcy HC2 hok d1 he' he2 k1 k2 k3
          generalize kf sc = s3 at hr3 HM HM2
          go_wp2_with (at_builtin; refine wpList_app1 w3 (by rfl) _ _ 29 (by rfl) w.heap.size 3 i0 _ 1 8 (by kernel_rfl) hi0 hz0 hz1 hz2 rfl (by decide) (by decide) _ k _ (by rfl) hownA #[.int .i64 y] rfl (by simp [Value.oneCell']) (by rfl) (by omega) (by omega) ?_; intro v' w4 hown4 hf4 hat4)
          have hr4 : RdSt w4 g B s3 := hr3.fr hf4 (fun k hk => Nat.le_trans hBw (hownA.lt k hk).1)
          have hok4 : ∀ x ∈ dn ++ [y], rdInt.ok w4 x := fun x hx => by
            rcases List.mem_append.1 hx with hx | hx
            · exact ftInt.fr (hok3 x hx) hf4 (fun b hb => (hbl x hx b hb).2)
            · obtain rfl := List.mem_singleton.1 hx
              exact ftInt.fr hoy hf4 hby2
          have hbl4 : ∀ x ∈ dn ++ [y], ∀ b, ftInt.blk x b → w.heap.size ≤ b ∧ v'.ownBlock ≠ some b := fun x hx b hb => by
            have hx2 : w.heap.size ≤ b ∧ v.ownBlock ≠ some b ∧ b < w3.heap.size := by
              rcases List.mem_append.1 hx with hx | hx
              · exact ⟨(hbl x hx b hb).1, (hbl x hx b hb).2, hlt3 x hx b hb⟩
              · obtain rfl := List.mem_singleton.1 hx
                exact ⟨Nat.le_trans hsz (hby b hb), hby2 b hb, hlty b hb⟩
            refine ⟨hx2.1, fun e => ?_⟩
            rcases hat4 with h | ⟨g', h, hg'⟩
            · exact hx2.2.1 (h ▸ e)
            · rw [h] at e
              cases e
              omega
          exact ⟨⟨_, k + 1, dn ++ [y], s3, rfl, by omega, by go_num, by simp [hdl], by rw [List.flatMap_append]; simpa [rdInt] using hown4, hok4, hbl4, hr4, (hfw.trans hf3).trans' (hf4.mono (S' := fun k => w.heap.size ≤ k) (fun k _ hk => (hownA.lt k hk).1)) (fun k hk h => by omega), .inl hN5, by omega, HM, HM2⟩, by simp [intOf]; omega⟩
        · have hfin : kL kf s = sc := by
            rw [HL.out, HG.out]
            have : N - k = 0 := by omega
            rw [this]
            rfl
          have HC2 := HC.out he
          have hv2 := HV2.out HC2.1
          have hkn2 : (k : Int) = n := by
            by_cases hk0 : 0 < k
            · have := hkn hk0; omega
            · have := hv2.2; omega
          have HFIN := Lib.hid hfin
          have hkN' : ¬ (k : Int) < n := hkN
          have HE : Hid (sc.e = 0 → s.l = lst enc dn ++ sc.l ∧ badL bad dn = false) := fun _ => by
            refine ⟨?_, ?_⟩
            · rw [hv2.1, HC2.2.1, ← hkn2, ← hdl]
              unfold lst
              rw [List.append_assoc]
            · unfold badL
              rw [HC2.2.2, hdl]
              simp
              omega
          obtain ⟨A9, c9, hv9, hs9, hb9⟩ := SlG.of_own hown (fun x _ => rdInt.len x) hdl
          clear hfin he hbg HG HL HC HC2 hv2
          go_wp2_with fail
          go_ret
          rw [HFIN.out]
          refine ⟨⟨A9, c9, dn⟩, by show Ending.returned (.slice A9 k c9) = .returned (.slice A9 dn.length c9); rw [hdl], ⟨by rw [← hdl] at hs9; exact hs9, hok⟩, fun b hb => ?_, hr, hfw, HE⟩
          rcases hb with ⟨_, o, e⟩ | ⟨x, hx, hb⟩
          · exact hb9 b o e
          · exact (hbl x hx b hb).1
      · have he' : (sc.e == 0) = false := by simpa using he
        have he2 : (sc.e != 0) = true := by simpa using he
        have hfin : kL kf s = sc := by
          rw [HL.out, HG.out, kRep_err he]
        have HFIN := Lib.hid hfin
        have HE : Hid (sc.e = 0 → s.l = lst enc [] ++ sc.l ∧ badL bad ([] : List Int) = false) := fun h => absurd h he
        clear hfin he hbg HG HL HC
        by_cases hkN : (k : Int) < n
        all_goals
          go_wp2_with fail
          go_ret
          rw [HFIN.out]
          refine ⟨⟨none, 0, []⟩, rfl, ⟨SlG.nil _ _ _, fun x h => by cases h⟩, fun b hb => ?_, hr, hfw, HE⟩
          rcases hb with ⟨h, _⟩ | ⟨x, hx, _⟩
          · exact absurd h (by simp)
          · cases hx
theorem rdSome_Int {enc : Int → List UInt8} {bad : Int → Bool} {kf : RS → RS} (hF : OneR ftInt 39 (fun z => .int .i64 z) enc bad kf) : ListR ftInt 38 (fun g => #[.pointer (some ⟨g, 0, none⟩), .func (.func 39) #[] #[]]) enc bad kf := by
  intro w g B s h
  go_enter Tryz.func38, Tryz.ntmps38
  go_wp2_with fail
  refine (rdList_Int hF w g B s h).mono ?_
  rintro e w2 ⟨y, rfl, h1, h2, h3, h4, h5⟩
  go_wp2_with fail
  go_ret
  exact ⟨y, rfl, h1, h2, h3, h4, h5⟩
end Go.Proofs.YtahjnonkhbpnpaaGreat
