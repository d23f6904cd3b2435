/- Words and walks for the claims of this seat, merged: RcElem, RcPart, RcDecode, CnWorks, Args2. -/
import Derived.Test.YtahjnonkhbpnpaaGreatCm1
import Derived.Test.YtahjnonkhbpnpaaGreatCm4
import Derived.Test.YtahjnonkhbpnpaaGreatCm6
import Derived.Test.YtahjnonkhbpnpaaGreatCm7
import Derived.Test.YtahjnonkhbpnpaaGreatCm8
/- conf's reader: the readers of elements. Printed by wip/gen_rcelem.py. -/
namespace Go.Proofs.YtahjnonkhbpnpaaGreat
open Go.RowKit
def encEn (x : En) : List UInt8 := intsB [x.part, x.port]
noncomputable def ftEn : Ft rdEn := ⟨fun _ _ => False, fun h _ _ => h, fun _ h => h.elim⟩
theorem okI_of {W : World} {h : Hd Int} (H : h.ok rdInt W) : h.okI W := by
  have e : h.l.flatMap rdInt.f = h.l.map (Value.int .i64) := by
    show h.l.flatMap (fun z => [Value.int .i64 z]) = _
    induction h.l with
    | nil => rfl
    | cons x l ih => rw [List.flatMap_cons, ih]; rfl
  exact ⟨by rw [← e]; exact H.1.1, rfl, H.2⟩
theorem ro_Int : OneR ftInt 39 (fun z => .int .i64 z) vint noB kI := by
  intro w g B s h
  go_enter Tryz.func39, Tryz.ntmps39
  go_wp2_with fail
  refine (rdInt_any h).mono ?_
  rintro x w2 ⟨rfl, hr2, hf2⟩
  go_wp2_with fail
  go_ret
  exact ⟨_, rfl, gInt_rng s, fun b hb => hb.elim, hr2, hf2, fun he => ⟨(gInt_inv he).2, rfl⟩⟩
theorem rdNums_any (w : World) (g B : Nat) (s : RS) (h : RdSt w g B s) : Calls Tryz.prog 38 #[.pointer (some ⟨g, 0, none⟩), .func (.func 39) #[] #[]] w fun e w' =>
    ∃ h : Hd Int, e = .returned h.v ∧ h.okI w' ∧ (∀ b, ftInts.blk h b → w.heap.size ≤ b) ∧ RdSt w' g B (kL kI s) ∧ Fr (fun q => q = g) w w' ∧ Hid ((kL kI s).e = 0 → s.l = lst vint h.l ++ (kL kI s).l ∧ badL noB h.l = false) :=
  (rdSome_Int ro_Int w g B s h).mono fun _ _ ⟨h, h1, h2, h3, h4⟩ => ⟨h, h1, okI_of h2, fun b hb => h3 b (.inl hb), h4⟩
set_option maxRecDepth 100000 in
set_option maxHeartbeats 3200000 in
theorem ro_Rg : OneR ftRg 84 Rg.v encRg noB kRg := by
  intro w g B s h
  have hgl : g < w.heap.size := by obtain ⟨_, _, _, h1, _, _⟩ := h; exact h1.lt
  have hBw : B ≤ w.heap.size := by obtain ⟨_, _, _, _, _, h3⟩ := h; exact h3.2.1
  have hb0 := (Below.refl w.heap.size w).alloc (Nat.le_refl _) (.cells #[.int .i64 0, .int .i64 0, .bool false] 124)
  have bw0 := Blk.new w 124 #[.int .i64 0, .int .i64 0, .bool false]
  have hrw0 := h.keep hb0
  have HS : Hid (kRg s = (gBool (gInt (gInt s).2).2).2) := rfl
  go_enter Tryz.func84, Tryz.ntmps84
  go_upto_region 1 with fail
  generalize w.alloc (.cells #[.int .i64 0, .int .i64 0, .bool false] 124) = w0 at hb0 bw0 hrw0 ⊢
  have Fw0 : Fr (fun q => q = g) w w0 := Fr.of_below hb0 _
  obtain ⟨gr, hgw⟩ : ∃ gr, gr = w.heap.size := ⟨_, rfl⟩
  rw [← hgw] at bw0 ⊢
  have hgr : ¬ gr = g := by omega
  have hle : w.heap.size ≤ gr := Nat.le_of_eq hgw.symm
  clear hb0 hgw
  go_wp2_with fail
  refine (rdInt_any hrw0).mono ?_
  rintro e w1 ⟨rfl, hrw1, hf⟩
  have o1 := gInt_rng s
  have v1 := Lib.hid (gInt_inv (s := s))
  generalize (gInt s).1 = n1 at o1 v1 ⊢
  generalize (gInt s).2 = s1 at hrw1 HS v1
  have bw1 := bw0.fr hf hgr
  have Fw1 := Fw0.trans hf
  clear hrw0 hf bw0 Fw0
  go_wp2_with fail
  refine (rdInt_any hrw1).mono ?_
  rintro e w2 ⟨rfl, hrw2, hf⟩
  have o2 := gInt_rng s1
  have v2 := Lib.hid (gInt_inv (s := s1))
  generalize (gInt s1).1 = n2 at o2 v2 ⊢
  generalize (gInt s1).2 = s2 at hrw2 HS v2
  have bw2 := bw1.fr hf hgr
  have Fw2 := Fw1.trans hf
  clear hrw1 hf bw1 Fw1
  go_wp2_with fail
  refine (rdBool_any hrw2).mono ?_
  rintro e w3 ⟨rfl, hrw3, hf⟩
  have v3 := Lib.hid (gBool_inv (s := s2))
  generalize (gBool s2).1 = n3 at v3 ⊢
  generalize (gBool s2).2 = s3 at hrw3 HS v3
  have bw3 := bw2.fr hf hgr
  have Fw3 := Fw2.trans hf
  clear hrw2 hf bw2 Fw2
  have fz : ∀ i, w3.frozen? ⟨gr, i, none⟩ = false := bw3.frozen
  have hlt9 := bw3.lt
  have z0 : w3.cell? ⟨gr, 0, none⟩ = some (.int .i64 0) := bw3.cell 0
  have z1 : w3.cell? ⟨gr, 1, none⟩ = some (.int .i64 0) := bw3.cell 1
  have z2 : w3.cell? ⟨gr, 2, none⟩ = some (.bool false) := bw3.cell 2
  go_wp2_with fail
  have rK : Blk (setRow w3 gr 0 [.int .i64 n1, .int .i64 n2, .bool n3]) gr 124 _ := Blk.row bw3 rfl
  have rF : Fr (fun q => q = gr) w3 (setRow w3 gr 0 [.int .i64 n1, .int .i64 n2, .bool n3]) := Fr.row _ 0 (Fr.refl _ _) (fun _ => rfl)
  simp only [setRow, Nat.zero_add, Nat.reduceAdd] at rK rF
  generalize ((w3.setCell ⟨gr, 0, none⟩ (.int .i64 n1)).setCell ⟨gr, 1, none⟩ (.int .i64 n2)).setCell ⟨gr, 2, none⟩ (.bool n3) = w9 at rK rF ⊢
  have y0 : w9.cell? ⟨gr, 0, none⟩ = some (.int .i64 n1) := rK.cell 0
  have y1 : w9.cell? ⟨gr, 1, none⟩ = some (.int .i64 n2) := rK.cell 1
  have y2 : w9.cell? ⟨gr, 2, none⟩ = some (.bool n3) := rK.cell 2
  have hr9 := hrw3.fr rF (fun q hq => by omega)
  have hF9 := Fw3.trans' (rF.mono (S' := fun q => q = gr) (fun q _ h => h)) (fun q hq h => by omega)
  have HE : Hid ((kRg s).e = 0 → s.l = encRg ⟨n1, n2, n3⟩ ++ (kRg s).l ∧ noB (⟨n1, n2, n3⟩ : Rg) = false) := fun he => by
    rw [HS.out] at he ⊢
    obtain ⟨e3, l3⟩ := v3.out he
    obtain ⟨e2, l2⟩ := v2.out e3
    obtain ⟨e1, l1⟩ := v1.out e2
    refine ⟨?_, rfl⟩
    rw [l1, l2, l3]
    unfold encRg
    simp only [intsB_cons, intsB_nil, List.append_assoc, List.append_nil]
  rw [HS.out] at HE
  refine bodyPost_ret (v := .agg #[.int .i64 n1, .int .i64 n2, .bool n3]) (by simp [results, Tryz.results84, go_sem, y0, y1, y2]) rfl ?_
  exact ⟨⟨n1, n2, n3⟩, rfl, ⟨o1, o2, trivial⟩, fun b hb => hb.elim, by rw [HS.out]; exact hr9, hF9, by rw [HS.out]; exact HE⟩
set_option maxRecDepth 100000 in
set_option maxHeartbeats 3200000 in
theorem ro_Pc : OneR ftPc 86 Pc.v encPc noB k3 := by
  intro w g B s h
  have hgl : g < w.heap.size := by obtain ⟨_, _, _, h1, _, _⟩ := h; exact h1.lt
  have hBw : B ≤ w.heap.size := by obtain ⟨_, _, _, _, _, h3⟩ := h; exact h3.2.1
  have hb0 := (Below.refl w.heap.size w).alloc (Nat.le_refl _) (.cells #[.int .i64 0, .int .i64 0, .int .i64 0] 129)
  have bw0 := Blk.new w 129 #[.int .i64 0, .int .i64 0, .int .i64 0]
  have hrw0 := h.keep hb0
  have HS : Hid (k3 s = (gInt (gInt (gInt s).2).2).2) := rfl
  go_enter Tryz.func86, Tryz.ntmps86
  go_upto_region 1 with fail
  generalize w.alloc (.cells #[.int .i64 0, .int .i64 0, .int .i64 0] 129) = w0 at hb0 bw0 hrw0 ⊢
  have Fw0 : Fr (fun q => q = g) w w0 := Fr.of_below hb0 _
  obtain ⟨gr, hgw⟩ : ∃ gr, gr = w.heap.size := ⟨_, rfl⟩
  rw [← hgw] at bw0 ⊢
  have hgr : ¬ gr = g := by omega
  have hle : w.heap.size ≤ gr := Nat.le_of_eq hgw.symm
  clear hb0 hgw
  go_wp2_with fail
  refine (rdInt_any hrw0).mono ?_
  rintro e w1 ⟨rfl, hrw1, hf⟩
  have o1 := gInt_rng s
  have v1 := Lib.hid (gInt_inv (s := s))
  generalize (gInt s).1 = n1 at o1 v1 ⊢
  generalize (gInt s).2 = s1 at hrw1 HS v1
  have bw1 := bw0.fr hf hgr
  have Fw1 := Fw0.trans hf
  clear hrw0 hf bw0 Fw0
  go_wp2_with fail
  refine (rdInt_any hrw1).mono ?_
  rintro e w2 ⟨rfl, hrw2, hf⟩
  have o2 := gInt_rng s1
  have v2 := Lib.hid (gInt_inv (s := s1))
  generalize (gInt s1).1 = n2 at o2 v2 ⊢
  generalize (gInt s1).2 = s2 at hrw2 HS v2
  have bw2 := bw1.fr hf hgr
  have Fw2 := Fw1.trans hf
  clear hrw1 hf bw1 Fw1
  go_wp2_with fail
  refine (rdInt_any hrw2).mono ?_
  rintro e w3 ⟨rfl, hrw3, hf⟩
  have o3 := gInt_rng s2
  have v3 := Lib.hid (gInt_inv (s := s2))
  generalize (gInt s2).1 = n3 at o3 v3 ⊢
  generalize (gInt s2).2 = s3 at hrw3 HS v3
  have bw3 := bw2.fr hf hgr
  have Fw3 := Fw2.trans hf
  clear hrw2 hf bw2 Fw2
  have fz : ∀ i, w3.frozen? ⟨gr, i, none⟩ = false := bw3.frozen
  have hlt9 := bw3.lt
  have z0 : w3.cell? ⟨gr, 0, none⟩ = some (.int .i64 0) := bw3.cell 0
  have z1 : w3.cell? ⟨gr, 1, none⟩ = some (.int .i64 0) := bw3.cell 1
  have z2 : w3.cell? ⟨gr, 2, none⟩ = some (.int .i64 0) := bw3.cell 2
  go_wp2_with fail
  have rK : Blk (setRow w3 gr 0 [.int .i64 n1, .int .i64 n2, .int .i64 n3]) gr 129 _ := Blk.row bw3 rfl
  have rF : Fr (fun q => q = gr) w3 (setRow w3 gr 0 [.int .i64 n1, .int .i64 n2, .int .i64 n3]) := Fr.row _ 0 (Fr.refl _ _) (fun _ => rfl)
  simp only [setRow, Nat.zero_add, Nat.reduceAdd] at rK rF
  generalize ((w3.setCell ⟨gr, 0, none⟩ (.int .i64 n1)).setCell ⟨gr, 1, none⟩ (.int .i64 n2)).setCell ⟨gr, 2, none⟩ (.int .i64 n3) = w9 at rK rF ⊢
  have y0 : w9.cell? ⟨gr, 0, none⟩ = some (.int .i64 n1) := rK.cell 0
  have y1 : w9.cell? ⟨gr, 1, none⟩ = some (.int .i64 n2) := rK.cell 1
  have y2 : w9.cell? ⟨gr, 2, none⟩ = some (.int .i64 n3) := rK.cell 2
  have hr9 := hrw3.fr rF (fun q hq => by omega)
  have hF9 := Fw3.trans' (rF.mono (S' := fun q => q = gr) (fun q _ h => h)) (fun q hq h => by omega)
  have HE : Hid ((k3 s).e = 0 → s.l = encPc ⟨n1, n2, n3⟩ ++ (k3 s).l ∧ noB (⟨n1, n2, n3⟩ : Pc) = false) := fun he => by
    rw [HS.out] at he ⊢
    obtain ⟨e3, l3⟩ := v3.out he
    obtain ⟨e2, l2⟩ := v2.out e3
    obtain ⟨e1, l1⟩ := v1.out e2
    refine ⟨?_, rfl⟩
    rw [l1, l2, l3]
    unfold encPc
    simp only [intsB_cons, intsB_nil, List.append_assoc, List.append_nil]
  rw [HS.out] at HE
  refine bodyPost_ret (v := .agg #[.int .i64 n1, .int .i64 n2, .int .i64 n3]) (by simp [results, Tryz.results86, go_sem, y0, y1, y2]) rfl ?_
  exact ⟨⟨n1, n2, n3⟩, rfl, ⟨o1, o2, o3⟩, fun b hb => hb.elim, by rw [HS.out]; exact hr9, hF9, by rw [HS.out]; exact HE⟩
set_option maxRecDepth 100000 in
set_option maxHeartbeats 3200000 in
theorem ro_Po : OneR ftPo 89 Po.v encPo noB kPo := by
  intro w g B s h
  have hgl : g < w.heap.size := by obtain ⟨_, _, _, h1, _, _⟩ := h; exact h1.lt
  have hBw : B ≤ w.heap.size := by obtain ⟨_, _, _, _, _, h3⟩ := h; exact h3.2.1
  have hb0 := (Below.refl w.heap.size w).alloc (Nat.le_refl _) (.cells #[.bool false, .bool false, .int .i64 0, .int .i64 0] 133)
  have bw0 := Blk.new w 133 #[.bool false, .bool false, .int .i64 0, .int .i64 0]
  have hrw0 := h.keep hb0
  have HS : Hid (kPo s = (gInt (gInt (gBool (gBool s).2).2).2).2) := rfl
  go_enter Tryz.func89, Tryz.ntmps89
  go_upto_region 1 with fail
  generalize w.alloc (.cells #[.bool false, .bool false, .int .i64 0, .int .i64 0] 133) = w0 at hb0 bw0 hrw0 ⊢
  have Fw0 : Fr (fun q => q = g) w w0 := Fr.of_below hb0 _
  obtain ⟨gr, hgw⟩ : ∃ gr, gr = w.heap.size := ⟨_, rfl⟩
  rw [← hgw] at bw0 ⊢
  have hgr : ¬ gr = g := by omega
  have hle : w.heap.size ≤ gr := Nat.le_of_eq hgw.symm
  clear hb0 hgw
  go_wp2_with fail
  refine (rdBool_any hrw0).mono ?_
  rintro e w1 ⟨rfl, hrw1, hf⟩
  have v1 := Lib.hid (gBool_inv (s := s))
  generalize (gBool s).1 = n1 at v1 ⊢
  generalize (gBool s).2 = s1 at hrw1 HS v1
  have bw1 := bw0.fr hf hgr
  have Fw1 := Fw0.trans hf
  clear hrw0 hf bw0 Fw0
  go_wp2_with fail
  refine (rdBool_any hrw1).mono ?_
  rintro e w2 ⟨rfl, hrw2, hf⟩
  have v2 := Lib.hid (gBool_inv (s := s1))
  generalize (gBool s1).1 = n2 at v2 ⊢
  generalize (gBool s1).2 = s2 at hrw2 HS v2
  have bw2 := bw1.fr hf hgr
  have Fw2 := Fw1.trans hf
  clear hrw1 hf bw1 Fw1
  go_wp2_with fail
  refine (rdInt_any hrw2).mono ?_
  rintro e w3 ⟨rfl, hrw3, hf⟩
  have o3 := gInt_rng s2
  have v3 := Lib.hid (gInt_inv (s := s2))
  generalize (gInt s2).1 = n3 at o3 v3 ⊢
  generalize (gInt s2).2 = s3 at hrw3 HS v3
  have bw3 := bw2.fr hf hgr
  have Fw3 := Fw2.trans hf
  clear hrw2 hf bw2 Fw2
  go_wp2_with fail
  refine (rdInt_any hrw3).mono ?_
  rintro e w4 ⟨rfl, hrw4, hf⟩
  have o4 := gInt_rng s3
  have v4 := Lib.hid (gInt_inv (s := s3))
  generalize (gInt s3).1 = n4 at o4 v4 ⊢
  generalize (gInt s3).2 = s4 at hrw4 HS v4
  have bw4 := bw3.fr hf hgr
  have Fw4 := Fw3.trans hf
  clear hrw3 hf bw3 Fw3
  have fz : ∀ i, w4.frozen? ⟨gr, i, none⟩ = false := bw4.frozen
  have hlt9 := bw4.lt
  have z0 : w4.cell? ⟨gr, 0, none⟩ = some (.bool false) := bw4.cell 0
  have z1 : w4.cell? ⟨gr, 1, none⟩ = some (.bool false) := bw4.cell 1
  have z2 : w4.cell? ⟨gr, 2, none⟩ = some (.int .i64 0) := bw4.cell 2
  have z3 : w4.cell? ⟨gr, 3, none⟩ = some (.int .i64 0) := bw4.cell 3
  go_wp2_with fail
  have rK : Blk (setRow w4 gr 0 [.bool n1, .bool n2, .int .i64 n3, .int .i64 n4]) gr 133 _ := Blk.row bw4 rfl
  have rF : Fr (fun q => q = gr) w4 (setRow w4 gr 0 [.bool n1, .bool n2, .int .i64 n3, .int .i64 n4]) := Fr.row _ 0 (Fr.refl _ _) (fun _ => rfl)
  simp only [setRow, Nat.zero_add, Nat.reduceAdd] at rK rF
  generalize (((w4.setCell ⟨gr, 0, none⟩ (.bool n1)).setCell ⟨gr, 1, none⟩ (.bool n2)).setCell ⟨gr, 2, none⟩ (.int .i64 n3)).setCell ⟨gr, 3, none⟩ (.int .i64 n4) = w9 at rK rF ⊢
  have y0 : w9.cell? ⟨gr, 0, none⟩ = some (.bool n1) := rK.cell 0
  have y1 : w9.cell? ⟨gr, 1, none⟩ = some (.bool n2) := rK.cell 1
  have y2 : w9.cell? ⟨gr, 2, none⟩ = some (.int .i64 n3) := rK.cell 2
  have y3 : w9.cell? ⟨gr, 3, none⟩ = some (.int .i64 n4) := rK.cell 3
  have hr9 := hrw4.fr rF (fun q hq => by omega)
  have hF9 := Fw4.trans' (rF.mono (S' := fun q => q = gr) (fun q _ h => h)) (fun q hq h => by omega)
  have HE : Hid ((kPo s).e = 0 → s.l = encPo ⟨n1, n2, n3, n4⟩ ++ (kPo s).l ∧ noB (⟨n1, n2, n3, n4⟩ : Po) = false) := fun he => by
    rw [HS.out] at he ⊢
    obtain ⟨e4, l4⟩ := v4.out he
    obtain ⟨e3, l3⟩ := v3.out e4
    obtain ⟨e2, l2⟩ := v2.out e3
    obtain ⟨e1, l1⟩ := v1.out e2
    refine ⟨?_, rfl⟩
    rw [l1, l2, l3, l4]
    unfold encPo
    simp only [intsB_cons, intsB_nil, List.append_assoc, List.append_nil]
  rw [HS.out] at HE
  refine bodyPost_ret (v := .agg #[.bool n1, .bool n2, .int .i64 n3, .int .i64 n4]) (by simp [results, Tryz.results89, go_sem, y0, y1, y2, y3]) rfl ?_
  exact ⟨⟨n1, n2, n3, n4⟩, rfl, ⟨trivial, trivial, o3, o4⟩, fun b hb => hb.elim, by rw [HS.out]; exact hr9, hF9, by rw [HS.out]; exact HE⟩
set_option maxRecDepth 100000 in
set_option maxHeartbeats 3200000 in
theorem ro_Sm : OneR ftSm 92 Sm.v encSm noB k2 := by
  intro w g B s h
  have hgl : g < w.heap.size := by obtain ⟨_, _, _, h1, _, _⟩ := h; exact h1.lt
  have hBw : B ≤ w.heap.size := by obtain ⟨_, _, _, _, _, h3⟩ := h; exact h3.2.1
  have hb0 := (Below.refl w.heap.size w).alloc (Nat.le_refl _) (.cells #[.int .i64 0, .int .i64 0] 137)
  have bw0 := Blk.new w 137 #[.int .i64 0, .int .i64 0]
  have hrw0 := h.keep hb0
  have HS : Hid (k2 s = (gInt (gInt s).2).2) := rfl
  go_enter Tryz.func92, Tryz.ntmps92
  go_upto_region 1 with fail
  generalize w.alloc (.cells #[.int .i64 0, .int .i64 0] 137) = w0 at hb0 bw0 hrw0 ⊢
  have Fw0 : Fr (fun q => q = g) w w0 := Fr.of_below hb0 _
  obtain ⟨gr, hgw⟩ : ∃ gr, gr = w.heap.size := ⟨_, rfl⟩
  rw [← hgw] at bw0 ⊢
  have hgr : ¬ gr = g := by omega
  have hle : w.heap.size ≤ gr := Nat.le_of_eq hgw.symm
  clear hb0 hgw
  go_wp2_with fail
  refine (rdInt_any hrw0).mono ?_
  rintro e w1 ⟨rfl, hrw1, hf⟩
  have o1 := gInt_rng s
  have v1 := Lib.hid (gInt_inv (s := s))
  generalize (gInt s).1 = n1 at o1 v1 ⊢
  generalize (gInt s).2 = s1 at hrw1 HS v1
  have bw1 := bw0.fr hf hgr
  have Fw1 := Fw0.trans hf
  clear hrw0 hf bw0 Fw0
  go_wp2_with fail
  refine (rdInt_any hrw1).mono ?_
  rintro e w2 ⟨rfl, hrw2, hf⟩
  have o2 := gInt_rng s1
  have v2 := Lib.hid (gInt_inv (s := s1))
  generalize (gInt s1).1 = n2 at o2 v2 ⊢
  generalize (gInt s1).2 = s2 at hrw2 HS v2
  have bw2 := bw1.fr hf hgr
  have Fw2 := Fw1.trans hf
  clear hrw1 hf bw1 Fw1
  have fz : ∀ i, w2.frozen? ⟨gr, i, none⟩ = false := bw2.frozen
  have hlt9 := bw2.lt
  have z0 : w2.cell? ⟨gr, 0, none⟩ = some (.int .i64 0) := bw2.cell 0
  have z1 : w2.cell? ⟨gr, 1, none⟩ = some (.int .i64 0) := bw2.cell 1
  go_wp2_with fail
  have rK : Blk (setRow w2 gr 0 [.int .i64 n1, .int .i64 n2]) gr 137 _ := Blk.row bw2 rfl
  have rF : Fr (fun q => q = gr) w2 (setRow w2 gr 0 [.int .i64 n1, .int .i64 n2]) := Fr.row _ 0 (Fr.refl _ _) (fun _ => rfl)
  simp only [setRow, Nat.zero_add] at rK rF
  generalize (w2.setCell ⟨gr, 0, none⟩ (.int .i64 n1)).setCell ⟨gr, 1, none⟩ (.int .i64 n2) = w9 at rK rF ⊢
  have y0 : w9.cell? ⟨gr, 0, none⟩ = some (.int .i64 n1) := rK.cell 0
  have y1 : w9.cell? ⟨gr, 1, none⟩ = some (.int .i64 n2) := rK.cell 1
  have hr9 := hrw2.fr rF (fun q hq => by omega)
  have hF9 := Fw2.trans' (rF.mono (S' := fun q => q = gr) (fun q _ h => h)) (fun q hq h => by omega)
  have HE : Hid ((k2 s).e = 0 → s.l = encSm ⟨n1, n2⟩ ++ (k2 s).l ∧ noB (⟨n1, n2⟩ : Sm) = false) := fun he => by
    rw [HS.out] at he ⊢
    obtain ⟨e2, l2⟩ := v2.out he
    obtain ⟨e1, l1⟩ := v1.out e2
    refine ⟨?_, rfl⟩
    rw [l1, l2]
    unfold encSm
    simp only [intsB_cons, intsB_nil, List.append_assoc, List.append_nil]
  rw [HS.out] at HE
  refine bodyPost_ret (v := .agg #[.int .i64 n1, .int .i64 n2]) (by simp [results, Tryz.results92, go_sem, y0, y1]) rfl ?_
  exact ⟨⟨n1, n2⟩, rfl, ⟨o1, o2⟩, fun b hb => hb.elim, by rw [HS.out]; exact hr9, hF9, by rw [HS.out]; exact HE⟩
set_option maxRecDepth 100000 in
set_option maxHeartbeats 3200000 in
theorem ro_Pl : OneR ftPl 94 Pl.v encPl noB k2 := by
  intro w g B s h
  have hgl : g < w.heap.size := by obtain ⟨_, _, _, h1, _, _⟩ := h; exact h1.lt
  have hBw : B ≤ w.heap.size := by obtain ⟨_, _, _, _, _, h3⟩ := h; exact h3.2.1
  have hb0 := (Below.refl w.heap.size w).alloc (Nat.le_refl _) (.cells #[.int .i64 0, .int .i64 0] 142)
  have bw0 := Blk.new w 142 #[.int .i64 0, .int .i64 0]
  have hrw0 := h.keep hb0
  have HS : Hid (k2 s = (gInt (gInt s).2).2) := rfl
  go_enter Tryz.func94, Tryz.ntmps94
  go_upto_region 1 with fail
  generalize w.alloc (.cells #[.int .i64 0, .int .i64 0] 142) = w0 at hb0 bw0 hrw0 ⊢
  have Fw0 : Fr (fun q => q = g) w w0 := Fr.of_below hb0 _
  obtain ⟨gr, hgw⟩ : ∃ gr, gr = w.heap.size := ⟨_, rfl⟩
  rw [← hgw] at bw0 ⊢
  have hgr : ¬ gr = g := by omega
  have hle : w.heap.size ≤ gr := Nat.le_of_eq hgw.symm
  clear hb0 hgw
  go_wp2_with fail
  refine (rdInt_any hrw0).mono ?_
  rintro e w1 ⟨rfl, hrw1, hf⟩
  have o1 := gInt_rng s
  have v1 := Lib.hid (gInt_inv (s := s))
  generalize (gInt s).1 = n1 at o1 v1 ⊢
  generalize (gInt s).2 = s1 at hrw1 HS v1
  have bw1 := bw0.fr hf hgr
  have Fw1 := Fw0.trans hf
  clear hrw0 hf bw0 Fw0
  go_wp2_with fail
  refine (rdInt_any hrw1).mono ?_
  rintro e w2 ⟨rfl, hrw2, hf⟩
  have o2 := gInt_rng s1
  have v2 := Lib.hid (gInt_inv (s := s1))
  generalize (gInt s1).1 = n2 at o2 v2 ⊢
  generalize (gInt s1).2 = s2 at hrw2 HS v2
  have bw2 := bw1.fr hf hgr
  have Fw2 := Fw1.trans hf
  clear hrw1 hf bw1 Fw1
  have fz : ∀ i, w2.frozen? ⟨gr, i, none⟩ = false := bw2.frozen
  have hlt9 := bw2.lt
  have z0 : w2.cell? ⟨gr, 0, none⟩ = some (.int .i64 0) := bw2.cell 0
  have z1 : w2.cell? ⟨gr, 1, none⟩ = some (.int .i64 0) := bw2.cell 1
  go_wp2_with fail
  have rK : Blk (setRow w2 gr 0 [.int .i64 n1, .int .i64 n2]) gr 142 _ := Blk.row bw2 rfl
  have rF : Fr (fun q => q = gr) w2 (setRow w2 gr 0 [.int .i64 n1, .int .i64 n2]) := Fr.row _ 0 (Fr.refl _ _) (fun _ => rfl)
  simp only [setRow, Nat.zero_add] at rK rF
  generalize (w2.setCell ⟨gr, 0, none⟩ (.int .i64 n1)).setCell ⟨gr, 1, none⟩ (.int .i64 n2) = w9 at rK rF ⊢
  have y0 : w9.cell? ⟨gr, 0, none⟩ = some (.int .i64 n1) := rK.cell 0
  have y1 : w9.cell? ⟨gr, 1, none⟩ = some (.int .i64 n2) := rK.cell 1
  have hr9 := hrw2.fr rF (fun q hq => by omega)
  have hF9 := Fw2.trans' (rF.mono (S' := fun q => q = gr) (fun q _ h => h)) (fun q hq h => by omega)
  have HE : Hid ((k2 s).e = 0 → s.l = encPl ⟨n1, n2⟩ ++ (k2 s).l ∧ noB (⟨n1, n2⟩ : Pl) = false) := fun he => by
    rw [HS.out] at he ⊢
    obtain ⟨e2, l2⟩ := v2.out he
    obtain ⟨e1, l1⟩ := v1.out e2
    refine ⟨?_, rfl⟩
    rw [l1, l2]
    unfold encPl
    simp only [intsB_cons, intsB_nil, List.append_assoc, List.append_nil]
  rw [HS.out] at HE
  refine bodyPost_ret (v := .agg #[.int .i64 n1, .int .i64 n2]) (by simp [results, Tryz.results94, go_sem, y0, y1]) rfl ?_
  exact ⟨⟨n1, n2⟩, rfl, ⟨o1, o2⟩, fun b hb => hb.elim, by rw [HS.out]; exact hr9, hF9, by rw [HS.out]; exact HE⟩
set_option maxRecDepth 100000 in
set_option maxHeartbeats 3200000 in
theorem ro_Wn : OneR ftWn 98 Wn.v encWn noB k3 := by
  intro w g B s h
  have hgl : g < w.heap.size := by obtain ⟨_, _, _, h1, _, _⟩ := h; exact h1.lt
  have hBw : B ≤ w.heap.size := by obtain ⟨_, _, _, _, _, h3⟩ := h; exact h3.2.1
  have hb0 := (Below.refl w.heap.size w).alloc (Nat.le_refl _) (.cells #[.int .i64 0, .int .i64 0, .int .i64 0] 85)
  have bw0 := Blk.new w 85 #[.int .i64 0, .int .i64 0, .int .i64 0]
  have hrw0 := h.keep hb0
  have HS : Hid (k3 s = (gInt (gInt (gInt s).2).2).2) := rfl
  go_enter Tryz.func98, Tryz.ntmps98
  go_upto_region 1 with fail
  generalize w.alloc (.cells #[.int .i64 0, .int .i64 0, .int .i64 0] 85) = w0 at hb0 bw0 hrw0 ⊢
  have Fw0 : Fr (fun q => q = g) w w0 := Fr.of_below hb0 _
  obtain ⟨gr, hgw⟩ : ∃ gr, gr = w.heap.size := ⟨_, rfl⟩
  rw [← hgw] at bw0 ⊢
  have hgr : ¬ gr = g := by omega
  have hle : w.heap.size ≤ gr := Nat.le_of_eq hgw.symm
  clear hb0 hgw
  go_wp2_with fail
  refine (rdInt_any hrw0).mono ?_
  rintro e w1 ⟨rfl, hrw1, hf⟩
  have o1 := gInt_rng s
  have v1 := Lib.hid (gInt_inv (s := s))
  generalize (gInt s).1 = n1 at o1 v1 ⊢
  generalize (gInt s).2 = s1 at hrw1 HS v1
  have bw1 := bw0.fr hf hgr
  have Fw1 := Fw0.trans hf
  clear hrw0 hf bw0 Fw0
  go_wp2_with fail
  refine (rdInt_any hrw1).mono ?_
  rintro e w2 ⟨rfl, hrw2, hf⟩
  have o2 := gInt_rng s1
  have v2 := Lib.hid (gInt_inv (s := s1))
  generalize (gInt s1).1 = n2 at o2 v2 ⊢
  generalize (gInt s1).2 = s2 at hrw2 HS v2
  have bw2 := bw1.fr hf hgr
  have Fw2 := Fw1.trans hf
  clear hrw1 hf bw1 Fw1
  go_wp2_with fail
  refine (rdInt_any hrw2).mono ?_
  rintro e w3 ⟨rfl, hrw3, hf⟩
  have o3 := gInt_rng s2
  have v3 := Lib.hid (gInt_inv (s := s2))
  generalize (gInt s2).1 = n3 at o3 v3 ⊢
  generalize (gInt s2).2 = s3 at hrw3 HS v3
  have bw3 := bw2.fr hf hgr
  have Fw3 := Fw2.trans hf
  clear hrw2 hf bw2 Fw2
  have fz : ∀ i, w3.frozen? ⟨gr, i, none⟩ = false := bw3.frozen
  have hlt9 := bw3.lt
  have z0 : w3.cell? ⟨gr, 0, none⟩ = some (.int .i64 0) := bw3.cell 0
  have z1 : w3.cell? ⟨gr, 1, none⟩ = some (.int .i64 0) := bw3.cell 1
  have z2 : w3.cell? ⟨gr, 2, none⟩ = some (.int .i64 0) := bw3.cell 2
  go_wp2_with fail
  have rK : Blk (setRow w3 gr 0 [.int .i64 n1, .int .i64 n2, .int .i64 n3]) gr 85 _ := Blk.row bw3 rfl
  have rF : Fr (fun q => q = gr) w3 (setRow w3 gr 0 [.int .i64 n1, .int .i64 n2, .int .i64 n3]) := Fr.row _ 0 (Fr.refl _ _) (fun _ => rfl)
  simp only [setRow, Nat.zero_add, Nat.reduceAdd] at rK rF
  generalize ((w3.setCell ⟨gr, 0, none⟩ (.int .i64 n1)).setCell ⟨gr, 1, none⟩ (.int .i64 n2)).setCell ⟨gr, 2, none⟩ (.int .i64 n3) = w9 at rK rF ⊢
  have y0 : w9.cell? ⟨gr, 0, none⟩ = some (.int .i64 n1) := rK.cell 0
  have y1 : w9.cell? ⟨gr, 1, none⟩ = some (.int .i64 n2) := rK.cell 1
  have y2 : w9.cell? ⟨gr, 2, none⟩ = some (.int .i64 n3) := rK.cell 2
  have hr9 := hrw3.fr rF (fun q hq => by omega)
  have hF9 := Fw3.trans' (rF.mono (S' := fun q => q = gr) (fun q _ h => h)) (fun q hq h => by omega)
  have HE : Hid ((k3 s).e = 0 → s.l = encWn ⟨n1, n2, n3⟩ ++ (k3 s).l ∧ noB (⟨n1, n2, n3⟩ : Wn) = false) := fun he => by
    rw [HS.out] at he ⊢
    obtain ⟨e3, l3⟩ := v3.out he
    obtain ⟨e2, l2⟩ := v2.out e3
    obtain ⟨e1, l1⟩ := v1.out e2
    refine ⟨?_, rfl⟩
    rw [l1, l2, l3]
    unfold encWn
    simp only [intsB_cons, intsB_nil, List.append_assoc, List.append_nil]
  rw [HS.out] at HE
  refine bodyPost_ret (v := .agg #[.int .i64 n1, .int .i64 n2, .int .i64 n3]) (by simp [results, Tryz.results98, go_sem, y0, y1, y2]) rfl ?_
  exact ⟨⟨n1, n2, n3⟩, rfl, ⟨o1, o2, o3⟩, fun b hb => hb.elim, by rw [HS.out]; exact hr9, hF9, by rw [HS.out]; exact HE⟩
set_option maxRecDepth 100000 in
set_option maxHeartbeats 3200000 in
theorem ro_Lv : OneR ftLv 100 Lv.v encLv noB k2 := by
  intro w g B s h
  have hgl : g < w.heap.size := by obtain ⟨_, _, _, h1, _, _⟩ := h; exact h1.lt
  have hBw : B ≤ w.heap.size := by obtain ⟨_, _, _, _, _, h3⟩ := h; exact h3.2.1
  have hb0 := (Below.refl w.heap.size w).alloc (Nat.le_refl _) (.cells #[.int .i64 0, .int .i64 0] 87)
  have bw0 := Blk.new w 87 #[.int .i64 0, .int .i64 0]
  have hrw0 := h.keep hb0
  have HS : Hid (k2 s = (gInt (gInt s).2).2) := rfl
  go_enter Tryz.func100, Tryz.ntmps100
  go_upto_region 1 with fail
  generalize w.alloc (.cells #[.int .i64 0, .int .i64 0] 87) = w0 at hb0 bw0 hrw0 ⊢
  have Fw0 : Fr (fun q => q = g) w w0 := Fr.of_below hb0 _
  obtain ⟨gr, hgw⟩ : ∃ gr, gr = w.heap.size := ⟨_, rfl⟩
  rw [← hgw] at bw0 ⊢
  have hgr : ¬ gr = g := by omega
  have hle : w.heap.size ≤ gr := Nat.le_of_eq hgw.symm
  clear hb0 hgw
  go_wp2_with fail
  refine (rdInt_any hrw0).mono ?_
  rintro e w1 ⟨rfl, hrw1, hf⟩
  have o1 := gInt_rng s
  have v1 := Lib.hid (gInt_inv (s := s))
  generalize (gInt s).1 = n1 at o1 v1 ⊢
  generalize (gInt s).2 = s1 at hrw1 HS v1
  have bw1 := bw0.fr hf hgr
  have Fw1 := Fw0.trans hf
  clear hrw0 hf bw0 Fw0
  go_wp2_with fail
  refine (rdInt_any hrw1).mono ?_
  rintro e w2 ⟨rfl, hrw2, hf⟩
  have o2 := gInt_rng s1
  have v2 := Lib.hid (gInt_inv (s := s1))
  generalize (gInt s1).1 = n2 at o2 v2 ⊢
  generalize (gInt s1).2 = s2 at hrw2 HS v2
  have bw2 := bw1.fr hf hgr
  have Fw2 := Fw1.trans hf
  clear hrw1 hf bw1 Fw1
  have fz : ∀ i, w2.frozen? ⟨gr, i, none⟩ = false := bw2.frozen
  have hlt9 := bw2.lt
  have z0 : w2.cell? ⟨gr, 0, none⟩ = some (.int .i64 0) := bw2.cell 0
  have z1 : w2.cell? ⟨gr, 1, none⟩ = some (.int .i64 0) := bw2.cell 1
  go_wp2_with fail
  have rK : Blk (setRow w2 gr 0 [.int .i64 n1, .int .i64 n2]) gr 87 _ := Blk.row bw2 rfl
  have rF : Fr (fun q => q = gr) w2 (setRow w2 gr 0 [.int .i64 n1, .int .i64 n2]) := Fr.row _ 0 (Fr.refl _ _) (fun _ => rfl)
  simp only [setRow, Nat.zero_add] at rK rF
  generalize (w2.setCell ⟨gr, 0, none⟩ (.int .i64 n1)).setCell ⟨gr, 1, none⟩ (.int .i64 n2) = w9 at rK rF ⊢
  have y0 : w9.cell? ⟨gr, 0, none⟩ = some (.int .i64 n1) := rK.cell 0
  have y1 : w9.cell? ⟨gr, 1, none⟩ = some (.int .i64 n2) := rK.cell 1
  have hr9 := hrw2.fr rF (fun q hq => by omega)
  have hF9 := Fw2.trans' (rF.mono (S' := fun q => q = gr) (fun q _ h => h)) (fun q hq h => by omega)
  have HE : Hid ((k2 s).e = 0 → s.l = encLv ⟨n1, n2⟩ ++ (k2 s).l ∧ noB (⟨n1, n2⟩ : Lv) = false) := fun he => by
    rw [HS.out] at he ⊢
    obtain ⟨e2, l2⟩ := v2.out he
    obtain ⟨e1, l1⟩ := v1.out e2
    refine ⟨?_, rfl⟩
    rw [l1, l2]
    unfold encLv
    simp only [intsB_cons, intsB_nil, List.append_assoc, List.append_nil]
  rw [HS.out] at HE
  refine bodyPost_ret (v := .agg #[.int .i64 n1, .int .i64 n2]) (by simp [results, Tryz.results100, go_sem, y0, y1]) rfl ?_
  exact ⟨⟨n1, n2⟩, rfl, ⟨o1, o2⟩, fun b hb => hb.elim, by rw [HS.out]; exact hr9, hF9, by rw [HS.out]; exact HE⟩
set_option maxRecDepth 100000 in
set_option maxHeartbeats 3200000 in
theorem ro_Np : OneR ftNp 102 Np.v encNp noB k3 := by
  intro w g B s h
  have hgl : g < w.heap.size := by obtain ⟨_, _, _, h1, _, _⟩ := h; exact h1.lt
  have hBw : B ≤ w.heap.size := by obtain ⟨_, _, _, _, _, h3⟩ := h; exact h3.2.1
  have hb0 := (Below.refl w.heap.size w).alloc (Nat.le_refl _) (.cells #[.int .i64 0, .int .i64 0, .int .i64 0] 89)
  have bw0 := Blk.new w 89 #[.int .i64 0, .int .i64 0, .int .i64 0]
  have hrw0 := h.keep hb0
  have HS : Hid (k3 s = (gInt (gInt (gInt s).2).2).2) := rfl
  go_enter Tryz.func102, Tryz.ntmps102
  go_upto_region 1 with fail
  generalize w.alloc (.cells #[.int .i64 0, .int .i64 0, .int .i64 0] 89) = w0 at hb0 bw0 hrw0 ⊢
  have Fw0 : Fr (fun q => q = g) w w0 := Fr.of_below hb0 _
  obtain ⟨gr, hgw⟩ : ∃ gr, gr = w.heap.size := ⟨_, rfl⟩
  rw [← hgw] at bw0 ⊢
  have hgr : ¬ gr = g := by omega
  have hle : w.heap.size ≤ gr := Nat.le_of_eq hgw.symm
  clear hb0 hgw
  go_wp2_with fail
  refine (rdInt_any hrw0).mono ?_
  rintro e w1 ⟨rfl, hrw1, hf⟩
  have o1 := gInt_rng s
  have v1 := Lib.hid (gInt_inv (s := s))
  generalize (gInt s).1 = n1 at o1 v1 ⊢
  generalize (gInt s).2 = s1 at hrw1 HS v1
  have bw1 := bw0.fr hf hgr
  have Fw1 := Fw0.trans hf
  clear hrw0 hf bw0 Fw0
  go_wp2_with fail
  refine (rdInt_any hrw1).mono ?_
  rintro e w2 ⟨rfl, hrw2, hf⟩
  have o2 := gInt_rng s1
  have v2 := Lib.hid (gInt_inv (s := s1))
  generalize (gInt s1).1 = n2 at o2 v2 ⊢
  generalize (gInt s1).2 = s2 at hrw2 HS v2
  have bw2 := bw1.fr hf hgr
  have Fw2 := Fw1.trans hf
  clear hrw1 hf bw1 Fw1
  go_wp2_with fail
  refine (rdInt_any hrw2).mono ?_
  rintro e w3 ⟨rfl, hrw3, hf⟩
  have o3 := gInt_rng s2
  have v3 := Lib.hid (gInt_inv (s := s2))
  generalize (gInt s2).1 = n3 at o3 v3 ⊢
  generalize (gInt s2).2 = s3 at hrw3 HS v3
  have bw3 := bw2.fr hf hgr
  have Fw3 := Fw2.trans hf
  clear hrw2 hf bw2 Fw2
  have fz : ∀ i, w3.frozen? ⟨gr, i, none⟩ = false := bw3.frozen
  have hlt9 := bw3.lt
  have z0 : w3.cell? ⟨gr, 0, none⟩ = some (.int .i64 0) := bw3.cell 0
  have z1 : w3.cell? ⟨gr, 1, none⟩ = some (.int .i64 0) := bw3.cell 1
  have z2 : w3.cell? ⟨gr, 2, none⟩ = some (.int .i64 0) := bw3.cell 2
  go_wp2_with fail
  have rK : Blk (setRow w3 gr 0 [.int .i64 n1, .int .i64 n2, .int .i64 n3]) gr 89 _ := Blk.row bw3 rfl
  have rF : Fr (fun q => q = gr) w3 (setRow w3 gr 0 [.int .i64 n1, .int .i64 n2, .int .i64 n3]) := Fr.row _ 0 (Fr.refl _ _) (fun _ => rfl)
  simp only [setRow, Nat.zero_add, Nat.reduceAdd] at rK rF
  generalize ((w3.setCell ⟨gr, 0, none⟩ (.int .i64 n1)).setCell ⟨gr, 1, none⟩ (.int .i64 n2)).setCell ⟨gr, 2, none⟩ (.int .i64 n3) = w9 at rK rF ⊢
  have y0 : w9.cell? ⟨gr, 0, none⟩ = some (.int .i64 n1) := rK.cell 0
  have y1 : w9.cell? ⟨gr, 1, none⟩ = some (.int .i64 n2) := rK.cell 1
  have y2 : w9.cell? ⟨gr, 2, none⟩ = some (.int .i64 n3) := rK.cell 2
  have hr9 := hrw3.fr rF (fun q hq => by omega)
  have hF9 := Fw3.trans' (rF.mono (S' := fun q => q = gr) (fun q _ h => h)) (fun q hq h => by omega)
  have HE : Hid ((k3 s).e = 0 → s.l = encNp ⟨n1, n2, n3⟩ ++ (k3 s).l ∧ noB (⟨n1, n2, n3⟩ : Np) = false) := fun he => by
    rw [HS.out] at he ⊢
    obtain ⟨e3, l3⟩ := v3.out he
    obtain ⟨e2, l2⟩ := v2.out e3
    obtain ⟨e1, l1⟩ := v1.out e2
    refine ⟨?_, rfl⟩
    rw [l1, l2, l3]
    unfold encNp
    simp only [intsB_cons, intsB_nil, List.append_assoc, List.append_nil]
  rw [HS.out] at HE
  refine bodyPost_ret (v := .agg #[.int .i64 n1, .int .i64 n2, .int .i64 n3]) (by simp [results, Tryz.results102, go_sem, y0, y1, y2]) rfl ?_
  exact ⟨⟨n1, n2, n3⟩, rfl, ⟨o1, o2, o3⟩, fun b hb => hb.elim, by rw [HS.out]; exact hr9, hF9, by rw [HS.out]; exact HE⟩
set_option maxRecDepth 100000 in
set_option maxHeartbeats 3200000 in
theorem ro_En : OneR ftEn 34 En.v encEn noB k2 := by
  intro w g B s h
  have hgl : g < w.heap.size := by obtain ⟨_, _, _, h1, _, _⟩ := h; exact h1.lt
  have hBw : B ≤ w.heap.size := by obtain ⟨_, _, _, _, _, h3⟩ := h; exact h3.2.1
  have hb0 := (Below.refl w.heap.size w).alloc (Nat.le_refl _) (.cells #[.int .i64 0, .int .i64 0] 70)
  have bw0 := Blk.new w 70 #[.int .i64 0, .int .i64 0]
  have hrw0 := h.keep hb0
  have HS : Hid (k2 s = (gInt (gInt s).2).2) := rfl
  go_enter Tryz.func34, Tryz.ntmps34
  go_upto_region 1 with fail
  generalize w.alloc (.cells #[.int .i64 0, .int .i64 0] 70) = w0 at hb0 bw0 hrw0 ⊢
  have Fw0 : Fr (fun q => q = g) w w0 := Fr.of_below hb0 _
  obtain ⟨gr, hgw⟩ : ∃ gr, gr = w.heap.size := ⟨_, rfl⟩
  rw [← hgw] at bw0 ⊢
  have hgr : ¬ gr = g := by omega
  have hle : w.heap.size ≤ gr := Nat.le_of_eq hgw.symm
  clear hb0 hgw
  go_wp2_with fail
  refine (rdInt_any hrw0).mono ?_
  rintro e w1 ⟨rfl, hrw1, hf⟩
  have o1 := gInt_rng s
  have v1 := Lib.hid (gInt_inv (s := s))
  generalize (gInt s).1 = n1 at o1 v1 ⊢
  generalize (gInt s).2 = s1 at hrw1 HS v1
  have bw1 := bw0.fr hf hgr
  have Fw1 := Fw0.trans hf
  clear hrw0 hf bw0 Fw0
  go_wp2_with fail
  refine (rdInt_any hrw1).mono ?_
  rintro e w2 ⟨rfl, hrw2, hf⟩
  have o2 := gInt_rng s1
  have v2 := Lib.hid (gInt_inv (s := s1))
  generalize (gInt s1).1 = n2 at o2 v2 ⊢
  generalize (gInt s1).2 = s2 at hrw2 HS v2
  have bw2 := bw1.fr hf hgr
  have Fw2 := Fw1.trans hf
  clear hrw1 hf bw1 Fw1
  have fz : ∀ i, w2.frozen? ⟨gr, i, none⟩ = false := bw2.frozen
  have hlt9 := bw2.lt
  have z0 : w2.cell? ⟨gr, 0, none⟩ = some (.int .i64 0) := bw2.cell 0
  have z1 : w2.cell? ⟨gr, 1, none⟩ = some (.int .i64 0) := bw2.cell 1
  go_wp2_with fail
  have rK : Blk (setRow w2 gr 0 [.int .i64 n1, .int .i64 n2]) gr 70 _ := Blk.row bw2 rfl
  have rF : Fr (fun q => q = gr) w2 (setRow w2 gr 0 [.int .i64 n1, .int .i64 n2]) := Fr.row _ 0 (Fr.refl _ _) (fun _ => rfl)
  simp only [setRow, Nat.zero_add] at rK rF
  generalize (w2.setCell ⟨gr, 0, none⟩ (.int .i64 n1)).setCell ⟨gr, 1, none⟩ (.int .i64 n2) = w9 at rK rF ⊢
  have y0 : w9.cell? ⟨gr, 0, none⟩ = some (.int .i64 n1) := rK.cell 0
  have y1 : w9.cell? ⟨gr, 1, none⟩ = some (.int .i64 n2) := rK.cell 1
  have hr9 := hrw2.fr rF (fun q hq => by omega)
  have hF9 := Fw2.trans' (rF.mono (S' := fun q => q = gr) (fun q _ h => h)) (fun q hq h => by omega)
  have HE : Hid ((k2 s).e = 0 → s.l = encEn ⟨n1, n2⟩ ++ (k2 s).l ∧ noB (⟨n1, n2⟩ : En) = false) := fun he => by
    rw [HS.out] at he ⊢
    obtain ⟨e2, l2⟩ := v2.out he
    obtain ⟨e1, l1⟩ := v1.out e2
    refine ⟨?_, rfl⟩
    rw [l1, l2]
    unfold encEn
    simp only [intsB_cons, intsB_nil, List.append_assoc, List.append_nil]
  rw [HS.out] at HE
  refine bodyPost_ret (v := .agg #[.int .i64 n1, .int .i64 n2]) (by simp [results, Tryz.results34, go_sem, y0, y1]) rfl ?_
  exact ⟨⟨n1, n2⟩, rfl, ⟨o1, o2⟩, fun b hb => hb.elim, by rw [HS.out]; exact hr9, hF9, by rw [HS.out]; exact HE⟩
set_option maxRecDepth 100000 in
set_option maxHeartbeats 3200000 in
theorem ro_Ch : OneR ftCh 33 Ch.v encCh noB k4 := by
  intro w g B s h
  have hgl : g < w.heap.size := by obtain ⟨_, _, _, h1, _, _⟩ := h; exact h1.lt
  have hBw : B ≤ w.heap.size := by obtain ⟨_, _, _, _, _, h3⟩ := h; exact h3.2.1
  have hb0 := (Below.refl w.heap.size w).alloc (Nat.le_refl _) (.cells #[.int .i64 0, .int .i64 0, .int .i64 0, .int .i64 0] 72)
  have bw0 := Blk.new w 72 #[.int .i64 0, .int .i64 0, .int .i64 0, .int .i64 0]
  have hrw0 := h.keep hb0
  have HS : Hid (k4 s = (k2 (k2 s))) := rfl
  go_enter Tryz.func33, Tryz.ntmps33
  go_upto_region 1 with fail
  generalize w.alloc (.cells #[.int .i64 0, .int .i64 0, .int .i64 0, .int .i64 0] 72) = w0 at hb0 bw0 hrw0 ⊢
  have Fw0 : Fr (fun q => q = g) w w0 := Fr.of_below hb0 _
  obtain ⟨gr, hgw⟩ : ∃ gr, gr = w.heap.size := ⟨_, rfl⟩
  rw [← hgw] at bw0 ⊢
  have hgr : ¬ gr = g := by omega
  have hle : w.heap.size ≤ gr := Nat.le_of_eq hgw.symm
  clear hb0 hgw
  go_wp2_with fail
  refine (ro_En _ _ _ _ hrw0).mono ?_
  rintro e w1 ⟨n1, rfl, o1, q1, hrw1, hf, v1⟩
  have u1 := Lib.hid (k2_stick (s := s))
  generalize k2 s = s1 at hrw1 HS v1 u1
  unfold En.v
  have bw1 := bw0.fr hf hgr
  have Fw1 := Fw0.trans hf
  clear hrw0 hf bw0 Fw0
  go_wp2_with fail
  refine (ro_En _ _ _ _ hrw1).mono ?_
  rintro e w2 ⟨n2, rfl, o2, q2, hrw2, hf, v2⟩
  have u2 := Lib.hid (k2_stick (s := s1))
  generalize k2 s1 = s2 at hrw2 HS v2 u2
  unfold En.v
  have bw2 := bw1.fr hf hgr
  have Fw2 := Fw1.trans hf
  clear hrw1 hf bw1 Fw1
  have fz : ∀ i, w2.frozen? ⟨gr, i, none⟩ = false := bw2.frozen
  have hlt9 := bw2.lt
  have z0 : w2.cell? ⟨gr, 0, none⟩ = some (.int .i64 0) := bw2.cell 0
  have z1 : w2.cell? ⟨gr, 1, none⟩ = some (.int .i64 0) := bw2.cell 1
  have z2 : w2.cell? ⟨gr, 2, none⟩ = some (.int .i64 0) := bw2.cell 2
  have z3 : w2.cell? ⟨gr, 3, none⟩ = some (.int .i64 0) := bw2.cell 3
  go_wp2_with fail
  have rK : Blk (setRow w2 gr 0 [.int .i64 n1.part, .int .i64 n1.port, .int .i64 n2.part, .int .i64 n2.port]) gr 72 _ := Blk.row bw2 rfl
  have rF : Fr (fun q => q = gr) w2 (setRow w2 gr 0 [.int .i64 n1.part, .int .i64 n1.port, .int .i64 n2.part, .int .i64 n2.port]) := Fr.row _ 0 (Fr.refl _ _) (fun _ => rfl)
  simp only [setRow, Nat.zero_add, Nat.reduceAdd] at rK rF
  generalize (((w2.setCell ⟨gr, 0, none⟩ (.int .i64 n1.part)).setCell ⟨gr, 1, none⟩ (.int .i64 n1.port)).setCell ⟨gr, 2, none⟩ (.int .i64 n2.part)).setCell ⟨gr, 3, none⟩ (.int .i64 n2.port) = w9 at rK rF ⊢
  have y0 : w9.cell? ⟨gr, 0, none⟩ = some (.int .i64 n1.part) := rK.cell 0
  have y1 : w9.cell? ⟨gr, 1, none⟩ = some (.int .i64 n1.port) := rK.cell 1
  have y2 : w9.cell? ⟨gr, 2, none⟩ = some (.int .i64 n2.part) := rK.cell 2
  have y3 : w9.cell? ⟨gr, 3, none⟩ = some (.int .i64 n2.port) := rK.cell 3
  have hr9 := hrw2.fr rF (fun q hq => by omega)
  have hF9 := Fw2.trans' (rF.mono (S' := fun q => q = gr) (fun q _ h => h)) (fun q hq h => by omega)
  have HE : Hid ((k4 s).e = 0 → s.l = encCh ⟨n1, n2⟩ ++ (k4 s).l ∧ noB (⟨n1, n2⟩ : Ch) = false) := fun he => by
    rw [HS.out] at he ⊢
    obtain ⟨l2, d2⟩ := v2.out he
    have e2 := u2.out he
    obtain ⟨l1, d1⟩ := v1.out e2
    have e1 := u1.out e2
    refine ⟨?_, rfl⟩
    rw [l1, l2]
    unfold encCh
    simp only [intsB_cons, intsB_nil, List.append_assoc, List.append_nil, encEn]
  rw [HS.out] at HE
  refine bodyPost_ret (v := .agg #[.int .i64 n1.part, .int .i64 n1.port, .int .i64 n2.part, .int .i64 n2.port]) (by simp [results, Tryz.results33, go_sem, y0, y1, y2, y3]) rfl ?_
  exact ⟨⟨n1, n2⟩, rfl, ⟨o1, o2⟩, fun b hb => hb.elim, by rw [HS.out]; exact hr9, hF9, by rw [HS.out]; exact HE⟩
set_option maxRecDepth 100000 in
set_option maxHeartbeats 3200000 in
theorem ro_Md : OneR ftMd 36 Md.v encMd badMd kMd := by
  intro w g B s h
  have hgl : g < w.heap.size := by obtain ⟨_, _, _, h1, _, _⟩ := h; exact h1.lt
  have hBw : B ≤ w.heap.size := by obtain ⟨_, _, _, _, _, h3⟩ := h; exact h3.2.1
  have hb0 := (Below.refl w.heap.size w).alloc (Nat.le_refl _) (.cells #[.int .i64 0, .slice none 0 0] 58)
  have bw0 := Blk.new w 58 #[.int .i64 0, .slice none 0 0]
  have hrw0 := h.keep hb0
  have HS : Hid (kMd s = (kL k3 (gInt s).2)) := rfl
  go_enter Tryz.func36, Tryz.ntmps36
  go_upto_region 1 with fail
  generalize w.alloc (.cells #[.int .i64 0, .slice none 0 0] 58) = w0 at hb0 bw0 hrw0 ⊢
  have Fw0 : Fr (fun q => q = g) w w0 := Fr.of_below hb0 _
  obtain ⟨gr, hgw⟩ : ∃ gr, gr = w.heap.size := ⟨_, rfl⟩
  rw [← hgw] at bw0 ⊢
  have hgr : ¬ gr = g := by omega
  have hle : w.heap.size ≤ gr := Nat.le_of_eq hgw.symm
  clear hb0 hgw
  go_wp2_with fail
  refine (rdInt_any hrw0).mono ?_
  rintro e w1 ⟨rfl, hrw1, hf⟩
  have o1 := gInt_rng s
  have v1 := Lib.hid (gInt_inv (s := s))
  generalize (gInt s).1 = n1 at o1 v1 ⊢
  generalize (gInt s).2 = s1 at hrw1 HS v1
  have bw1 := bw0.fr hf hgr
  have Fw1 := Fw0.trans hf
  clear hrw0 hf bw0 Fw0
  go_wp2_with fail
  refine (rdSome_Wn ro_Wn _ _ _ _ hrw1).mono ?_
  rintro e w2 ⟨n2, rfl, o2, q2, hrw2, hf, v2⟩
  have u2 := Lib.hid (kL_stick (f := k3) (s := s1))
  generalize kL k3 s1 = s2 at hrw2 HS v2 u2
  unfold Hd.v
  have bw2 := bw1.fr hf hgr
  have Fw2 := Fw1.trans hf
  replace q2 : ∀ b, blkH ftWn n2 b → gr < b ∧ g < b := fun b hb => by have := q2 b hb; have := Fw1.size; have := bw1.lt; exact ⟨by omega, by omega⟩
  clear hrw1 hf bw1 Fw1
  have fz : ∀ i, w2.frozen? ⟨gr, i, none⟩ = false := bw2.frozen
  have hlt9 := bw2.lt
  have z0 : w2.cell? ⟨gr, 0, none⟩ = some (.int .i64 0) := bw2.cell 0
  have z1 : w2.cell? ⟨gr, 1, none⟩ = some (.slice none 0 0) := bw2.cell 1
  go_wp2_with fail
  have rK : Blk (setRow w2 gr 0 [.int .i64 n1, .slice n2.A n2.l.length n2.c]) gr 58 _ := Blk.row bw2 rfl
  have rF : Fr (fun q => q = gr) w2 (setRow w2 gr 0 [.int .i64 n1, .slice n2.A n2.l.length n2.c]) := Fr.row _ 0 (Fr.refl _ _) (fun _ => rfl)
  simp only [setRow, Nat.zero_add] at rK rF
  generalize (w2.setCell ⟨gr, 0, none⟩ (.int .i64 n1)).setCell ⟨gr, 1, none⟩ (.slice n2.A n2.l.length n2.c) = w9 at rK rF ⊢
  have y0 : w9.cell? ⟨gr, 0, none⟩ = some (.int .i64 n1) := rK.cell 0
  have y1 : w9.cell? ⟨gr, 1, none⟩ = some (.slice n2.A n2.l.length n2.c) := rK.cell 1
  have hr9 := hrw2.fr rF (fun q hq => by omega)
  have hF9 := Fw2.trans' (rF.mono (S' := fun q => q = gr) (fun q _ h => h)) (fun q hq h => by omega)
  replace o2 := okH_fr ftWn o2 rF (fun b hb e => by have := q2 b hb; omega)
  have HE : Hid ((kMd s).e = 0 → s.l = encMd ⟨n1, n2⟩ ++ (kMd s).l ∧ badMd (⟨n1, n2⟩ : Md) = false) := fun he => by
    rw [HS.out] at he ⊢
    obtain ⟨l2, d2⟩ := v2.out he
    have e2 := u2.out he
    obtain ⟨e1, l1⟩ := v1.out e2
    refine ⟨?_, by unfold badMd; simp [d2]⟩
    rw [l1, l2]
    unfold encMd
    simp only [List.append_assoc]
  rw [HS.out] at HE
  refine bodyPost_ret (v := .agg #[.int .i64 n1, .slice n2.A n2.l.length n2.c]) (by simp [results, Tryz.results36, go_sem, y0, y1]) rfl ?_
  refine ⟨⟨n1, n2⟩, rfl, ⟨o1, o2⟩, fun b hb => ?_, by rw [HS.out]; exact hr9, hF9, by rw [HS.out]; exact HE⟩
  have := q2 b hb
  omega
end Go.Proofs.YtahjnonkhbpnpaaGreat
/- conf's reader: the readers of elements. Printed by wip/gen_rcelem.py. -/
namespace Go.Proofs.YtahjnonkhbpnpaaGreat
open Go.RowKit
set_option maxRecDepth 100000 in
set_option maxHeartbeats 3200000 in
theorem ro_Pw : OneR ftPw 37 Pw.v encPw badPw kPw := by
  intro w g B s h
  have hgl : g < w.heap.size := by obtain ⟨_, _, _, h1, _, _⟩ := h; exact h1.lt
  have hBw : B ≤ w.heap.size := by obtain ⟨_, _, _, _, _, h3⟩ := h; exact h3.2.1
  have hb0 := (Below.refl w.heap.size w).alloc (Nat.le_refl _) (.cells #[.slice none 0 0, .slice none 0 0, .int .i64 0, .int .i64 0, .int .i64 0, .int .i64 0, .int .i64 0, .int .i64 0] 28)
  have bw0 := Blk.new w 28 #[.slice none 0 0, .slice none 0 0, .int .i64 0, .int .i64 0, .int .i64 0, .int .i64 0, .int .i64 0, .int .i64 0]
  have hrw0 := h.keep hb0
  have HS : Hid (kPw s = (gInt (gInt (gInt (gInt (gInt (gInt (kL k3 (kL k2 s))).2).2).2).2).2).2) := rfl
  go_enter Tryz.func37, Tryz.ntmps37
  go_upto_region 1 with fail
  generalize w.alloc (.cells #[.slice none 0 0, .slice none 0 0, .int .i64 0, .int .i64 0, .int .i64 0, .int .i64 0, .int .i64 0, .int .i64 0] 28) = w0 at hb0 bw0 hrw0 ⊢
  have Fw0 : Fr (fun q => q = g) w w0 := Fr.of_below hb0 _
  obtain ⟨gr, hgw⟩ : ∃ gr, gr = w.heap.size := ⟨_, rfl⟩
  rw [← hgw] at bw0 ⊢
  have hgr : ¬ gr = g := by omega
  have hle : w.heap.size ≤ gr := Nat.le_of_eq hgw.symm
  clear hb0 hgw
  go_wp2_with fail
  refine (rdSome_Lv ro_Lv _ _ _ _ hrw0).mono ?_
  rintro e w1 ⟨n1, rfl, o1, q1, hrw1, hf, v1⟩
  have u1 := Lib.hid (kL_stick (f := k2) (s := s))
  generalize kL k2 s = s1 at hrw1 HS v1 u1
  unfold Hd.v
  have bw1 := bw0.fr hf hgr
  have Fw1 := Fw0.trans hf
  replace q1 : ∀ b, blkH ftLv n1 b → gr < b ∧ g < b := fun b hb => by have := q1 b hb; have := Fw0.size; have := bw0.lt; exact ⟨by omega, by omega⟩
  clear hrw0 hf bw0 Fw0
  go_wp2_with fail
  refine (rdSome_Np ro_Np _ _ _ _ hrw1).mono ?_
  rintro e w2 ⟨n2, rfl, o2, q2, hrw2, hf, v2⟩
  have u2 := Lib.hid (kL_stick (f := k3) (s := s1))
  generalize kL k3 s1 = s2 at hrw2 HS v2 u2
  unfold Hd.v
  have bw2 := bw1.fr hf hgr
  have Fw2 := Fw1.trans hf
  replace o1 := okH_fr ftLv o1 hf (fun b hb e => by have := q1 b hb; omega)
  replace q2 : ∀ b, blkH ftNp n2 b → gr < b ∧ g < b := fun b hb => by have := q2 b hb; have := Fw1.size; have := bw1.lt; exact ⟨by omega, by omega⟩
  clear hrw1 hf bw1 Fw1
  go_wp2_with fail
  refine (rdInt_any hrw2).mono ?_
  rintro e w3 ⟨rfl, hrw3, hf⟩
  have o3 := gInt_rng s2
  have v3 := Lib.hid (gInt_inv (s := s2))
  generalize (gInt s2).1 = n3 at o3 v3 ⊢
  generalize (gInt s2).2 = s3 at hrw3 HS v3
  have bw3 := bw2.fr hf hgr
  have Fw3 := Fw2.trans hf
  replace o1 := okH_fr ftLv o1 hf (fun b hb e => by have := q1 b hb; omega)
  replace o2 := okH_fr ftNp o2 hf (fun b hb e => by have := q2 b hb; omega)
  clear hrw2 hf bw2 Fw2
  go_wp2_with fail
  refine (rdInt_any hrw3).mono ?_
  rintro e w4 ⟨rfl, hrw4, hf⟩
  have o4 := gInt_rng s3
  have v4 := Lib.hid (gInt_inv (s := s3))
  generalize (gInt s3).1 = n4 at o4 v4 ⊢
  generalize (gInt s3).2 = s4 at hrw4 HS v4
  have bw4 := bw3.fr hf hgr
  have Fw4 := Fw3.trans hf
  replace o1 := okH_fr ftLv o1 hf (fun b hb e => by have := q1 b hb; omega)
  replace o2 := okH_fr ftNp o2 hf (fun b hb e => by have := q2 b hb; omega)
  clear hrw3 hf bw3 Fw3
  go_wp2_with fail
  refine (rdInt_any hrw4).mono ?_
  rintro e w5 ⟨rfl, hrw5, hf⟩
  have o5 := gInt_rng s4
  have v5 := Lib.hid (gInt_inv (s := s4))
  generalize (gInt s4).1 = n5 at o5 v5 ⊢
  generalize (gInt s4).2 = s5 at hrw5 HS v5
  have bw5 := bw4.fr hf hgr
  have Fw5 := Fw4.trans hf
  replace o1 := okH_fr ftLv o1 hf (fun b hb e => by have := q1 b hb; omega)
  replace o2 := okH_fr ftNp o2 hf (fun b hb e => by have := q2 b hb; omega)
  clear hrw4 hf bw4 Fw4
  go_wp2_with fail
  refine (rdInt_any hrw5).mono ?_
  rintro e w6 ⟨rfl, hrw6, hf⟩
  have o6 := gInt_rng s5
  have v6 := Lib.hid (gInt_inv (s := s5))
  generalize (gInt s5).1 = n6 at o6 v6 ⊢
  generalize (gInt s5).2 = s6 at hrw6 HS v6
  have bw6 := bw5.fr hf hgr
  have Fw6 := Fw5.trans hf
  replace o1 := okH_fr ftLv o1 hf (fun b hb e => by have := q1 b hb; omega)
  replace o2 := okH_fr ftNp o2 hf (fun b hb e => by have := q2 b hb; omega)
  clear hrw5 hf bw5 Fw5
  go_wp2_with fail
  refine (rdInt_any hrw6).mono ?_
  rintro e w7 ⟨rfl, hrw7, hf⟩
  have o7 := gInt_rng s6
  have v7 := Lib.hid (gInt_inv (s := s6))
  generalize (gInt s6).1 = n7 at o7 v7 ⊢
  generalize (gInt s6).2 = s7 at hrw7 HS v7
  have bw7 := bw6.fr hf hgr
  have Fw7 := Fw6.trans hf
  replace o1 := okH_fr ftLv o1 hf (fun b hb e => by have := q1 b hb; omega)
  replace o2 := okH_fr ftNp o2 hf (fun b hb e => by have := q2 b hb; omega)
  clear hrw6 hf bw6 Fw6
  go_wp2_with fail
  refine (rdInt_any hrw7).mono ?_
  rintro e w8 ⟨rfl, hrw8, hf⟩
  have o8 := gInt_rng s7
  have v8 := Lib.hid (gInt_inv (s := s7))
  generalize (gInt s7).1 = n8 at o8 v8 ⊢
  generalize (gInt s7).2 = s8 at hrw8 HS v8
  have bw8 := bw7.fr hf hgr
  have Fw8 := Fw7.trans hf
  replace o1 := okH_fr ftLv o1 hf (fun b hb e => by have := q1 b hb; omega)
  replace o2 := okH_fr ftNp o2 hf (fun b hb e => by have := q2 b hb; omega)
  clear hrw7 hf bw7 Fw7
  have fz : ∀ i, w8.frozen? ⟨gr, i, none⟩ = false := bw8.frozen
  have hlt9 := bw8.lt
  have z0 : w8.cell? ⟨gr, 0, none⟩ = some (.slice none 0 0) := bw8.cell 0
  have z1 : w8.cell? ⟨gr, 1, none⟩ = some (.slice none 0 0) := bw8.cell 1
  have z2 : w8.cell? ⟨gr, 2, none⟩ = some (.int .i64 0) := bw8.cell 2
  have z3 : w8.cell? ⟨gr, 3, none⟩ = some (.int .i64 0) := bw8.cell 3
  have z4 : w8.cell? ⟨gr, 4, none⟩ = some (.int .i64 0) := bw8.cell 4
  have z5 : w8.cell? ⟨gr, 5, none⟩ = some (.int .i64 0) := bw8.cell 5
  have z6 : w8.cell? ⟨gr, 6, none⟩ = some (.int .i64 0) := bw8.cell 6
  have z7 : w8.cell? ⟨gr, 7, none⟩ = some (.int .i64 0) := bw8.cell 7
  go_wp2_with fail
  have rK : Blk (setRow w8 gr 0 [.slice n1.A n1.l.length n1.c, .slice n2.A n2.l.length n2.c, .int .i64 n3, .int .i64 n4, .int .i64 n5, .int .i64 n6, .int .i64 n7, .int .i64 n8]) gr 28 _ := Blk.row bw8 rfl
  have rF : Fr (fun q => q = gr) w8 (setRow w8 gr 0 [.slice n1.A n1.l.length n1.c, .slice n2.A n2.l.length n2.c, .int .i64 n3, .int .i64 n4, .int .i64 n5, .int .i64 n6, .int .i64 n7, .int .i64 n8]) := Fr.row _ 0 (Fr.refl _ _) (fun _ => rfl)
  simp only [setRow, Nat.zero_add, Nat.reduceAdd] at rK rF
  generalize (((((((w8.setCell ⟨gr, 0, none⟩ (.slice n1.A n1.l.length n1.c)).setCell ⟨gr, 1, none⟩ (.slice n2.A n2.l.length n2.c)).setCell ⟨gr, 2, none⟩ (.int .i64 n3)).setCell ⟨gr, 3, none⟩ (.int .i64 n4)).setCell ⟨gr, 4, none⟩ (.int .i64 n5)).setCell ⟨gr, 5, none⟩ (.int .i64 n6)).setCell ⟨gr, 6, none⟩ (.int .i64 n7)).setCell ⟨gr, 7, none⟩ (.int .i64 n8) = w9 at rK rF ⊢
  have y0 : w9.cell? ⟨gr, 0, none⟩ = some (.slice n1.A n1.l.length n1.c) := rK.cell 0
  have y1 : w9.cell? ⟨gr, 1, none⟩ = some (.slice n2.A n2.l.length n2.c) := rK.cell 1
  have y2 : w9.cell? ⟨gr, 2, none⟩ = some (.int .i64 n3) := rK.cell 2
  have y3 : w9.cell? ⟨gr, 3, none⟩ = some (.int .i64 n4) := rK.cell 3
  have y4 : w9.cell? ⟨gr, 4, none⟩ = some (.int .i64 n5) := rK.cell 4
  have y5 : w9.cell? ⟨gr, 5, none⟩ = some (.int .i64 n6) := rK.cell 5
  have y6 : w9.cell? ⟨gr, 6, none⟩ = some (.int .i64 n7) := rK.cell 6
  have y7 : w9.cell? ⟨gr, 7, none⟩ = some (.int .i64 n8) := rK.cell 7
  have hr9 := hrw8.fr rF (fun q hq => by omega)
  have hF9 := Fw8.trans' (rF.mono (S' := fun q => q = gr) (fun q _ h => h)) (fun q hq h => by omega)
  replace o1 := okH_fr ftLv o1 rF (fun b hb e => by have := q1 b hb; omega)
  replace o2 := okH_fr ftNp o2 rF (fun b hb e => by have := q2 b hb; omega)
  have HE : Hid ((kPw s).e = 0 → s.l = encPw ⟨n1, n2, n3, n4, n5, n6, n7, n8⟩ ++ (kPw s).l ∧ badPw (⟨n1, n2, n3, n4, n5, n6, n7, n8⟩ : Pw) = false) := fun he => by
    rw [HS.out] at he ⊢
    obtain ⟨e8, l8⟩ := v8.out he
    obtain ⟨e7, l7⟩ := v7.out e8
    obtain ⟨e6, l6⟩ := v6.out e7
    obtain ⟨e5, l5⟩ := v5.out e6
    obtain ⟨e4, l4⟩ := v4.out e5
    obtain ⟨e3, l3⟩ := v3.out e4
    obtain ⟨l2, d2⟩ := v2.out e3
    have e2 := u2.out e3
    obtain ⟨l1, d1⟩ := v1.out e2
    have e1 := u1.out e2
    refine ⟨?_, by unfold badPw; simp [d1, d2]⟩
    rw [l1, l2, l3, l4, l5, l6, l7, l8]
    unfold encPw
    simp only [intsB_cons, intsB_nil, List.append_assoc, List.append_nil]
  rw [HS.out] at HE
  refine bodyPost_ret (v := .agg #[.slice n1.A n1.l.length n1.c, .slice n2.A n2.l.length n2.c, .int .i64 n3, .int .i64 n4, .int .i64 n5, .int .i64 n6, .int .i64 n7, .int .i64 n8]) (by simp [results, Tryz.results37, go_sem, y0, y1, y2, y3, y4, y5, y6, y7]) rfl ?_
  refine ⟨⟨n1, n2, n3, n4, n5, n6, n7, n8⟩, rfl, ⟨o1, o2, o3, o4, o5, o6, o7, o8⟩, fun b hb => ?_, by rw [HS.out]; exact hr9, hF9, by rw [HS.out]; exact HE⟩
  rcases hb with hb | hb
  · have := q1 b hb; omega
  · have := q2 b hb; omega
set_option maxRecDepth 100000 in
set_option maxHeartbeats 3200000 in
theorem ro_Pt : OneR ftPt 31 Pt.v encPt badPt kPt := by
  intro w g B s h
  have hgl : g < w.heap.size := by obtain ⟨_, _, _, h1, _, _⟩ := h; exact h1.lt
  have hBw : B ≤ w.heap.size := by obtain ⟨_, _, _, _, _, h3⟩ := h; exact h3.2.1
  have hb0 := (Below.refl w.heap.size w).alloc (Nat.le_refl _) (.cells #[.slice none 0 0, .slice none 0 0, .slice none 0 0, .slice none 0 0, .int .i64 0, .slice none 0 0, .slice none 0 0, .int .i64 0, .int .i64 0, .int .i64 0, .slice none 0 0] 55)
  have bw0 := Blk.new w 55 #[.slice none 0 0, .slice none 0 0, .slice none 0 0, .slice none 0 0, .int .i64 0, .slice none 0 0, .slice none 0 0, .int .i64 0, .int .i64 0, .int .i64 0, .slice none 0 0]
  have hrw0 := h.keep hb0
  have HS : Hid (kPt s = (kL kI (gInt (gInt (gInt (kL kI (kL k2 (gInt (kL k2 (kL kPo (kL k3 (kL kRg s))))).2))).2).2).2)) := rfl
  go_enter Tryz.func31, Tryz.ntmps31
  go_upto_region 1 with fail
  generalize w.alloc (.cells #[.slice none 0 0, .slice none 0 0, .slice none 0 0, .slice none 0 0, .int .i64 0, .slice none 0 0, .slice none 0 0, .int .i64 0, .int .i64 0, .int .i64 0, .slice none 0 0] 55) = w0 at hb0 bw0 hrw0 ⊢
  have Fw0 : Fr (fun q => q = g) w w0 := Fr.of_below hb0 _
  obtain ⟨gr, hgw⟩ : ∃ gr, gr = w.heap.size := ⟨_, rfl⟩
  rw [← hgw] at bw0 ⊢
  have hgr : ¬ gr = g := by omega
  have hle : w.heap.size ≤ gr := Nat.le_of_eq hgw.symm
  clear hb0 hgw
  go_wp2_with fail
  refine (rdSome_Rg ro_Rg _ _ _ _ hrw0).mono ?_
  rintro e w1 ⟨n1, rfl, o1, q1, hrw1, hf, v1⟩
  have u1 := Lib.hid (kL_stick (f := kRg) (s := s))
  generalize kL kRg s = s1 at hrw1 HS v1 u1
  unfold Hd.v
  have bw1 := bw0.fr hf hgr
  have Fw1 := Fw0.trans hf
  replace q1 : ∀ b, blkH ftRg n1 b → gr < b ∧ g < b := fun b hb => by have := q1 b hb; have := Fw0.size; have := bw0.lt; exact ⟨by omega, by omega⟩
  clear hrw0 hf bw0 Fw0
  go_wp2_with fail
  refine (rdSome_Pc ro_Pc _ _ _ _ hrw1).mono ?_
  rintro e w2 ⟨n2, rfl, o2, q2, hrw2, hf, v2⟩
  have u2 := Lib.hid (kL_stick (f := k3) (s := s1))
  generalize kL k3 s1 = s2 at hrw2 HS v2 u2
  unfold Hd.v
  have bw2 := bw1.fr hf hgr
  have Fw2 := Fw1.trans hf
  replace o1 := okH_fr ftRg o1 hf (fun b hb e => by have := q1 b hb; omega)
  replace q2 : ∀ b, blkH ftPc n2 b → gr < b ∧ g < b := fun b hb => by have := q2 b hb; have := Fw1.size; have := bw1.lt; exact ⟨by omega, by omega⟩
  clear hrw1 hf bw1 Fw1
  go_wp2_with fail
  refine (rdSome_Po ro_Po _ _ _ _ hrw2).mono ?_
  rintro e w3 ⟨n3, rfl, o3, q3, hrw3, hf, v3⟩
  have u3 := Lib.hid (kL_stick (f := kPo) (s := s2))
  generalize kL kPo s2 = s3 at hrw3 HS v3 u3
  unfold Hd.v
  have bw3 := bw2.fr hf hgr
  have Fw3 := Fw2.trans hf
  replace o1 := okH_fr ftRg o1 hf (fun b hb e => by have := q1 b hb; omega)
  replace o2 := okH_fr ftPc o2 hf (fun b hb e => by have := q2 b hb; omega)
  replace q3 : ∀ b, blkH ftPo n3 b → gr < b ∧ g < b := fun b hb => by have := q3 b hb; have := Fw2.size; have := bw2.lt; exact ⟨by omega, by omega⟩
  clear hrw2 hf bw2 Fw2
  go_wp2_with fail
  refine (rdSome_Sm ro_Sm _ _ _ _ hrw3).mono ?_
  rintro e w4 ⟨n4, rfl, o4, q4, hrw4, hf, v4⟩
  have u4 := Lib.hid (kL_stick (f := k2) (s := s3))
  generalize kL k2 s3 = s4 at hrw4 HS v4 u4
  unfold Hd.v
  have bw4 := bw3.fr hf hgr
  have Fw4 := Fw3.trans hf
  replace o1 := okH_fr ftRg o1 hf (fun b hb e => by have := q1 b hb; omega)
  replace o2 := okH_fr ftPc o2 hf (fun b hb e => by have := q2 b hb; omega)
  replace o3 := okH_fr ftPo o3 hf (fun b hb e => by have := q3 b hb; omega)
  replace q4 : ∀ b, blkH ftSm n4 b → gr < b ∧ g < b := fun b hb => by have := q4 b hb; have := Fw3.size; have := bw3.lt; exact ⟨by omega, by omega⟩
  clear hrw3 hf bw3 Fw3
  go_wp2_with fail
  refine (rdInt_any hrw4).mono ?_
  rintro e w5 ⟨rfl, hrw5, hf⟩
  have o5 := gInt_rng s4
  have v5 := Lib.hid (gInt_inv (s := s4))
  generalize (gInt s4).1 = n5 at o5 v5 ⊢
  generalize (gInt s4).2 = s5 at hrw5 HS v5
  have bw5 := bw4.fr hf hgr
  have Fw5 := Fw4.trans hf
  replace o1 := okH_fr ftRg o1 hf (fun b hb e => by have := q1 b hb; omega)
  replace o2 := okH_fr ftPc o2 hf (fun b hb e => by have := q2 b hb; omega)
  replace o3 := okH_fr ftPo o3 hf (fun b hb e => by have := q3 b hb; omega)
  replace o4 := okH_fr ftSm o4 hf (fun b hb e => by have := q4 b hb; omega)
  clear hrw4 hf bw4 Fw4
  go_wp2_with fail
  refine (rdSome_Pl ro_Pl _ _ _ _ hrw5).mono ?_
  rintro e w6 ⟨n6, rfl, o6, q6, hrw6, hf, v6⟩
  have u6 := Lib.hid (kL_stick (f := k2) (s := s5))
  generalize kL k2 s5 = s6 at hrw6 HS v6 u6
  unfold Hd.v
  have bw6 := bw5.fr hf hgr
  have Fw6 := Fw5.trans hf
  replace o1 := okH_fr ftRg o1 hf (fun b hb e => by have := q1 b hb; omega)
  replace o2 := okH_fr ftPc o2 hf (fun b hb e => by have := q2 b hb; omega)
  replace o3 := okH_fr ftPo o3 hf (fun b hb e => by have := q3 b hb; omega)
  replace o4 := okH_fr ftSm o4 hf (fun b hb e => by have := q4 b hb; omega)
  replace q6 : ∀ b, blkH ftPl n6 b → gr < b ∧ g < b := fun b hb => by have := q6 b hb; have := Fw5.size; have := bw5.lt; exact ⟨by omega, by omega⟩
  clear hrw5 hf bw5 Fw5
  go_wp2_with fail
  refine (rdNums_any _ _ _ _ hrw6).mono ?_
  rintro e w7 ⟨n7, rfl, o7, q7, hrw7, hf, v7⟩
  have u7 := Lib.hid (kL_stick (f := kI) (s := s6))
  generalize kL kI s6 = s7 at hrw7 HS v7 u7
  unfold Hd.v
  have bw7 := bw6.fr hf hgr
  have Fw7 := Fw6.trans hf
  replace o1 := okH_fr ftRg o1 hf (fun b hb e => by have := q1 b hb; omega)
  replace o2 := okH_fr ftPc o2 hf (fun b hb e => by have := q2 b hb; omega)
  replace o3 := okH_fr ftPo o3 hf (fun b hb e => by have := q3 b hb; omega)
  replace o4 := okH_fr ftSm o4 hf (fun b hb e => by have := q4 b hb; omega)
  replace o6 := okH_fr ftPl o6 hf (fun b hb e => by have := q6 b hb; omega)
  replace q7 : ∀ b, ftInts.blk n7 b → gr < b ∧ g < b := fun b hb => by have := q7 b hb; have := Fw6.size; have := bw6.lt; exact ⟨by omega, by omega⟩
  clear hrw6 hf bw6 Fw6
  go_wp2_with fail
  refine (rdInt_any hrw7).mono ?_
  rintro e w8 ⟨rfl, hrw8, hf⟩
  have o8 := gInt_rng s7
  have v8 := Lib.hid (gInt_inv (s := s7))
  generalize (gInt s7).1 = n8 at o8 v8 ⊢
  generalize (gInt s7).2 = s8 at hrw8 HS v8
  have bw8 := bw7.fr hf hgr
  have Fw8 := Fw7.trans hf
  replace o1 := okH_fr ftRg o1 hf (fun b hb e => by have := q1 b hb; omega)
  replace o2 := okH_fr ftPc o2 hf (fun b hb e => by have := q2 b hb; omega)
  replace o3 := okH_fr ftPo o3 hf (fun b hb e => by have := q3 b hb; omega)
  replace o4 := okH_fr ftSm o4 hf (fun b hb e => by have := q4 b hb; omega)
  replace o6 := okH_fr ftPl o6 hf (fun b hb e => by have := q6 b hb; omega)
  replace o7 := ftInts.fr o7 hf (fun b hb e => by have := q7 b hb; omega)
  clear hrw7 hf bw7 Fw7
  go_wp2_with fail
  refine (rdInt_any hrw8).mono ?_
  rintro e w9 ⟨rfl, hrw9, hf⟩
  have o9 := gInt_rng s8
  have v9 := Lib.hid (gInt_inv (s := s8))
  generalize (gInt s8).1 = n9 at o9 v9 ⊢
  generalize (gInt s8).2 = s9 at hrw9 HS v9
  have bw9 := bw8.fr hf hgr
  have Fw9 := Fw8.trans hf
  replace o1 := okH_fr ftRg o1 hf (fun b hb e => by have := q1 b hb; omega)
  replace o2 := okH_fr ftPc o2 hf (fun b hb e => by have := q2 b hb; omega)
  replace o3 := okH_fr ftPo o3 hf (fun b hb e => by have := q3 b hb; omega)
  replace o4 := okH_fr ftSm o4 hf (fun b hb e => by have := q4 b hb; omega)
  replace o6 := okH_fr ftPl o6 hf (fun b hb e => by have := q6 b hb; omega)
  replace o7 := ftInts.fr o7 hf (fun b hb e => by have := q7 b hb; omega)
  clear hrw8 hf bw8 Fw8
  go_wp2_with fail
  refine (rdInt_any hrw9).mono ?_
  rintro e w10 ⟨rfl, hrw10, hf⟩
  have o10 := gInt_rng s9
  have v10 := Lib.hid (gInt_inv (s := s9))
  generalize (gInt s9).1 = n10 at o10 v10 ⊢
  generalize (gInt s9).2 = s10 at hrw10 HS v10
  have bw10 := bw9.fr hf hgr
  have Fw10 := Fw9.trans hf
  replace o1 := okH_fr ftRg o1 hf (fun b hb e => by have := q1 b hb; omega)
  replace o2 := okH_fr ftPc o2 hf (fun b hb e => by have := q2 b hb; omega)
  replace o3 := okH_fr ftPo o3 hf (fun b hb e => by have := q3 b hb; omega)
  replace o4 := okH_fr ftSm o4 hf (fun b hb e => by have := q4 b hb; omega)
  replace o6 := okH_fr ftPl o6 hf (fun b hb e => by have := q6 b hb; omega)
  replace o7 := ftInts.fr o7 hf (fun b hb e => by have := q7 b hb; omega)
  clear hrw9 hf bw9 Fw9
  go_wp2_with fail
  refine (rdNums_any _ _ _ _ hrw10).mono ?_
  rintro e w11 ⟨n11, rfl, o11, q11, hrw11, hf, v11⟩
  have u11 := Lib.hid (kL_stick (f := kI) (s := s10))
  generalize kL kI s10 = s11 at hrw11 HS v11 u11
  unfold Hd.v
  have bw11 := bw10.fr hf hgr
  have Fw11 := Fw10.trans hf
  replace o1 := okH_fr ftRg o1 hf (fun b hb e => by have := q1 b hb; omega)
  replace o2 := okH_fr ftPc o2 hf (fun b hb e => by have := q2 b hb; omega)
  replace o3 := okH_fr ftPo o3 hf (fun b hb e => by have := q3 b hb; omega)
  replace o4 := okH_fr ftSm o4 hf (fun b hb e => by have := q4 b hb; omega)
  replace o6 := okH_fr ftPl o6 hf (fun b hb e => by have := q6 b hb; omega)
  replace o7 := ftInts.fr o7 hf (fun b hb e => by have := q7 b hb; omega)
  replace q11 : ∀ b, ftInts.blk n11 b → gr < b ∧ g < b := fun b hb => by have := q11 b hb; have := Fw10.size; have := bw10.lt; exact ⟨by omega, by omega⟩
  clear hrw10 hf bw10 Fw10
  have fz : ∀ i, w11.frozen? ⟨gr, i, none⟩ = false := bw11.frozen
  have hlt9 := bw11.lt
  have z0 : w11.cell? ⟨gr, 0, none⟩ = some (.slice none 0 0) := bw11.cell 0
  have z1 : w11.cell? ⟨gr, 1, none⟩ = some (.slice none 0 0) := bw11.cell 1
  have z2 : w11.cell? ⟨gr, 2, none⟩ = some (.slice none 0 0) := bw11.cell 2
  have z3 : w11.cell? ⟨gr, 3, none⟩ = some (.slice none 0 0) := bw11.cell 3
  have z4 : w11.cell? ⟨gr, 4, none⟩ = some (.int .i64 0) := bw11.cell 4
  have z5 : w11.cell? ⟨gr, 5, none⟩ = some (.slice none 0 0) := bw11.cell 5
  have z6 : w11.cell? ⟨gr, 6, none⟩ = some (.slice none 0 0) := bw11.cell 6
  have z7 : w11.cell? ⟨gr, 7, none⟩ = some (.int .i64 0) := bw11.cell 7
  have z8 : w11.cell? ⟨gr, 8, none⟩ = some (.int .i64 0) := bw11.cell 8
  have z9 : w11.cell? ⟨gr, 9, none⟩ = some (.int .i64 0) := bw11.cell 9
  have z10 : w11.cell? ⟨gr, 10, none⟩ = some (.slice none 0 0) := bw11.cell 10
  go_wp2_with fail
  have rK : Blk (setRow w11 gr 0 [.slice n1.A n1.l.length n1.c, .slice n2.A n2.l.length n2.c, .slice n3.A n3.l.length n3.c, .slice n4.A n4.l.length n4.c, .int .i64 n5, .slice n6.A n6.l.length n6.c, .slice n7.A n7.l.length n7.c, .int .i64 n8, .int .i64 n9, .int .i64 n10, .slice n11.A n11.l.length n11.c]) gr 55 _ := Blk.row bw11 rfl
  have rF : Fr (fun q => q = gr) w11 (setRow w11 gr 0 [.slice n1.A n1.l.length n1.c, .slice n2.A n2.l.length n2.c, .slice n3.A n3.l.length n3.c, .slice n4.A n4.l.length n4.c, .int .i64 n5, .slice n6.A n6.l.length n6.c, .slice n7.A n7.l.length n7.c, .int .i64 n8, .int .i64 n9, .int .i64 n10, .slice n11.A n11.l.length n11.c]) := Fr.row _ 0 (Fr.refl _ _) (fun _ => rfl)
  simp only [setRow, Nat.zero_add, Nat.reduceAdd] at rK rF
  generalize ((((((((((w11.setCell ⟨gr, 0, none⟩ (.slice n1.A n1.l.length n1.c)).setCell ⟨gr, 1, none⟩ (.slice n2.A n2.l.length n2.c)).setCell ⟨gr, 2, none⟩ (.slice n3.A n3.l.length n3.c)).setCell ⟨gr, 3, none⟩ (.slice n4.A n4.l.length n4.c)).setCell ⟨gr, 4, none⟩ (.int .i64 n5)).setCell ⟨gr, 5, none⟩ (.slice n6.A n6.l.length n6.c)).setCell ⟨gr, 6, none⟩ (.slice n7.A n7.l.length n7.c)).setCell ⟨gr, 7, none⟩ (.int .i64 n8)).setCell ⟨gr, 8, none⟩ (.int .i64 n9)).setCell ⟨gr, 9, none⟩ (.int .i64 n10)).setCell ⟨gr, 10, none⟩ (.slice n11.A n11.l.length n11.c) = w9 at rK rF ⊢
  have y0 : w9.cell? ⟨gr, 0, none⟩ = some (.slice n1.A n1.l.length n1.c) := rK.cell 0
  have y1 : w9.cell? ⟨gr, 1, none⟩ = some (.slice n2.A n2.l.length n2.c) := rK.cell 1
  have y2 : w9.cell? ⟨gr, 2, none⟩ = some (.slice n3.A n3.l.length n3.c) := rK.cell 2
  have y3 : w9.cell? ⟨gr, 3, none⟩ = some (.slice n4.A n4.l.length n4.c) := rK.cell 3
  have y4 : w9.cell? ⟨gr, 4, none⟩ = some (.int .i64 n5) := rK.cell 4
  have y5 : w9.cell? ⟨gr, 5, none⟩ = some (.slice n6.A n6.l.length n6.c) := rK.cell 5
  have y6 : w9.cell? ⟨gr, 6, none⟩ = some (.slice n7.A n7.l.length n7.c) := rK.cell 6
  have y7 : w9.cell? ⟨gr, 7, none⟩ = some (.int .i64 n8) := rK.cell 7
  have y8 : w9.cell? ⟨gr, 8, none⟩ = some (.int .i64 n9) := rK.cell 8
  have y9 : w9.cell? ⟨gr, 9, none⟩ = some (.int .i64 n10) := rK.cell 9
  have y10 : w9.cell? ⟨gr, 10, none⟩ = some (.slice n11.A n11.l.length n11.c) := rK.cell 10
  have hr9 := hrw11.fr rF (fun q hq => by omega)
  have hF9 := Fw11.trans' (rF.mono (S' := fun q => q = gr) (fun q _ h => h)) (fun q hq h => by omega)
  replace o1 := okH_fr ftRg o1 rF (fun b hb e => by have := q1 b hb; omega)
  replace o2 := okH_fr ftPc o2 rF (fun b hb e => by have := q2 b hb; omega)
  replace o3 := okH_fr ftPo o3 rF (fun b hb e => by have := q3 b hb; omega)
  replace o4 := okH_fr ftSm o4 rF (fun b hb e => by have := q4 b hb; omega)
  replace o6 := okH_fr ftPl o6 rF (fun b hb e => by have := q6 b hb; omega)
  replace o7 := ftInts.fr o7 rF (fun b hb e => by have := q7 b hb; omega)
  replace o11 := ftInts.fr o11 rF (fun b hb e => by have := q11 b hb; omega)
  have HE : Hid ((kPt s).e = 0 → s.l = encPt ⟨n1, n2, n3, n4, n5, n6, n7, n8, n9, n10, n11⟩ ++ (kPt s).l ∧ badPt (⟨n1, n2, n3, n4, n5, n6, n7, n8, n9, n10, n11⟩ : Pt) = false) := fun he => by
    rw [HS.out] at he ⊢
    obtain ⟨l11, d11⟩ := v11.out he
    have e11 := u11.out he
    obtain ⟨e10, l10⟩ := v10.out e11
    obtain ⟨e9, l9⟩ := v9.out e10
    obtain ⟨e8, l8⟩ := v8.out e9
    obtain ⟨l7, d7⟩ := v7.out e8
    have e7 := u7.out e8
    obtain ⟨l6, d6⟩ := v6.out e7
    have e6 := u6.out e7
    obtain ⟨e5, l5⟩ := v5.out e6
    obtain ⟨l4, d4⟩ := v4.out e5
    have e4 := u4.out e5
    obtain ⟨l3, d3⟩ := v3.out e4
    have e3 := u3.out e4
    obtain ⟨l2, d2⟩ := v2.out e3
    have e2 := u2.out e3
    obtain ⟨l1, d1⟩ := v1.out e2
    have e1 := u1.out e2
    refine ⟨?_, by unfold badPt; simp [d1, d2, d3, d4, d6, d7, d11]⟩
    rw [l1, l2, l3, l4, l5, l6, l7, l8, l9, l10, l11]
    unfold encPt
    simp only [intsB_cons, intsB_nil, List.append_assoc, List.append_nil]
  rw [HS.out] at HE
  refine bodyPost_ret (v := .agg #[.slice n1.A n1.l.length n1.c, .slice n2.A n2.l.length n2.c, .slice n3.A n3.l.length n3.c, .slice n4.A n4.l.length n4.c, .int .i64 n5, .slice n6.A n6.l.length n6.c, .slice n7.A n7.l.length n7.c, .int .i64 n8, .int .i64 n9, .int .i64 n10, .slice n11.A n11.l.length n11.c]) (by simp [results, Tryz.results31, go_sem, y0, y1, y2, y3, y4, y5, y6, y7, y8, y9, y10]) rfl ?_
  refine ⟨⟨n1, n2, n3, n4, n5, n6, n7, n8, n9, n10, n11⟩, rfl, ⟨o1, o2, o3, o4, o5, o6, o7, o8, o9, o10, o11⟩, fun b hb => ?_, by rw [HS.out]; exact hr9, hF9, by rw [HS.out]; exact HE⟩
  rcases hb with hb | hb | hb | hb | hb | hb | hb
  · have := q1 b hb; omega
  · have := q2 b hb; omega
  · have := q3 b hb; omega
  · have := q4 b hb; omega
  · have := q6 b hb; omega
  · have := q7 b hb; omega
  · have := q11 b hb; omega
end Go.Proofs.YtahjnonkhbpnpaaGreat
/- conf's Decode. Printed by wip/gen_rcelem.py. -/
namespace Go.Proofs.YtahjnonkhbpnpaaGreat
open Go.RowKit
set_option maxRecDepth 100000 in
set_option maxHeartbeats 12800000 in
theorem decode_any {w : World} {A : Option Addr} {n c : Nat} {l : List UInt8} (h : SlB w A n c l) (hn : n ≤ 65536) : Calls Tryz.prog 11 #[.slice A n c] w (DecPost l w) := by
  obtain ⟨s, hs⟩ : ∃ s : RS, s = ⟨l, 0⟩ := ⟨_, rfl⟩
  have HS : Hid (kCf s = (kL kI (kL kI (kPw (kL kMd (kL k4 (kL kPt s))))))) := rfl
  have hb0 := (Below.refl w.heap.size w).alloc (Nat.le_refl _) (.cells #[.slice none 0 0, .slice none 0 0, .slice none 0 0, .slice none 0 0, .slice none 0 0, .int .i64 0, .int .i64 0, .int .i64 0, .int .i64 0, .int .i64 0, .int .i64 0, .slice none 0 0, .slice none 0 0] 33)
  have bw0 := Blk.new w 33 #[.slice none 0 0, .slice none 0 0, .slice none 0 0, .slice none 0 0, .slice none 0 0, .int .i64 0, .int .i64 0, .int .i64 0, .int .i64 0, .int .i64 0, .int .i64 0, .slice none 0 0, .slice none 0 0]
  have hl0 := h.keep hb0
  go_enter Tryz.func11, Tryz.ntmps11
  go_upto_region 1 with fail
  generalize w.alloc (.cells #[.slice none 0 0, .slice none 0 0, .slice none 0 0, .slice none 0 0, .slice none 0 0, .int .i64 0, .int .i64 0, .int .i64 0, .int .i64 0, .int .i64 0, .int .i64 0, .slice none 0 0, .slice none 0 0] 33) = wa at hb0 bw0 hl0 ⊢
  obtain ⟨gr, hgw⟩ : ∃ gr, gr = w.heap.size := ⟨_, rfl⟩
  rw [← hgw] at bw0 ⊢
  have hle : w.heap.size ≤ gr := Nat.le_of_eq hgw.symm
  clear hgw
  have hgra := bw0.lt
  go_wp2_with fail
  refine (read_any hl0 (by omega)).mono ?_
  rintro e w0 ⟨g, B, rfl, hrw0, hgge, hbr⟩
  rw [← hs] at hrw0
  replace bw0 := bw0.keep hbr
  have hBr := hb0.trans (hbr.mono hb0.size)
  have hgl : g < w0.heap.size := by obtain ⟨_, _, _, h1, _, _⟩ := hrw0; exact h1.lt
  have hgr : ¬ gr = g := by omega
  have Fw0 : Fr (fun q => q = g) w0 w0 := Fr.refl _ _
  have HSL := Lib.hid hs
  clear hb0 hl0 hbr hs
  go_wp2_with fail
  refine (rdSome_Pt ro_Pt _ _ _ _ hrw0).mono ?_
  rintro e w1 ⟨n1, rfl, o1, q1, hrw1, hf, v1⟩
  have u1 := Lib.hid (kL_stick (f := kPt) (s := s))
  generalize kL kPt s = s1 at hrw1 HS v1 u1
  unfold Hd.v
  have bw1 := bw0.fr hf hgr
  have Fw1 := Fw0.trans hf
  replace q1 : ∀ b, blkH ftPt n1 b → gr < b ∧ g < b := fun b hb => by have := q1 b hb; have := Fw0.size; have := bw0.lt; exact ⟨by omega, by omega⟩
  clear hrw0 hf bw0 Fw0
  go_wp2_with fail
  refine (rdSome_Ch ro_Ch _ _ _ _ hrw1).mono ?_
  rintro e w2 ⟨n2, rfl, o2, q2, hrw2, hf, v2⟩
  have u2 := Lib.hid (kL_stick (f := k4) (s := s1))
  generalize kL k4 s1 = s2 at hrw2 HS v2 u2
  unfold Hd.v
  have bw2 := bw1.fr hf hgr
  have Fw2 := Fw1.trans hf
  replace o1 := okH_fr ftPt o1 hf (fun b hb e => by have := q1 b hb; omega)
  replace q2 : ∀ b, blkH ftCh n2 b → gr < b ∧ g < b := fun b hb => by have := q2 b hb; have := Fw1.size; have := bw1.lt; exact ⟨by omega, by omega⟩
  clear hrw1 hf bw1 Fw1
  go_wp2_with fail
  refine (rdSome_Md ro_Md _ _ _ _ hrw2).mono ?_
  rintro e w3 ⟨n3, rfl, o3, q3, hrw3, hf, v3⟩
  have u3 := Lib.hid (kL_stick (f := kMd) (s := s2))
  generalize kL kMd s2 = s3 at hrw3 HS v3 u3
  unfold Hd.v
  have bw3 := bw2.fr hf hgr
  have Fw3 := Fw2.trans hf
  replace o1 := okH_fr ftPt o1 hf (fun b hb e => by have := q1 b hb; omega)
  replace o2 := okH_fr ftCh o2 hf (fun b hb e => by have := q2 b hb; omega)
  replace q3 : ∀ b, blkH ftMd n3 b → gr < b ∧ g < b := fun b hb => by have := q3 b hb; have := Fw2.size; have := bw2.lt; exact ⟨by omega, by omega⟩
  clear hrw2 hf bw2 Fw2
  go_wp2_with fail
  refine (ro_Pw _ _ _ _ hrw3).mono ?_
  rintro e w4 ⟨n4, rfl, o4, q4, hrw4, hf, v4⟩
  have u4 := Lib.hid (kPw_stick (s := s3))
  generalize kPw s3 = s4 at hrw4 HS v4 u4
  unfold Pw.v
  try unfold Hd.v
  have bw4 := bw3.fr hf hgr
  have Fw4 := Fw3.trans hf
  replace o1 := okH_fr ftPt o1 hf (fun b hb e => by have := q1 b hb; omega)
  replace o2 := okH_fr ftCh o2 hf (fun b hb e => by have := q2 b hb; omega)
  replace o3 := okH_fr ftMd o3 hf (fun b hb e => by have := q3 b hb; omega)
  replace q4 : ∀ b, ftPw.blk n4 b → gr < b ∧ g < b := fun b hb => by have := q4 b hb; have := Fw3.size; have := bw3.lt; exact ⟨by omega, by omega⟩
  clear hrw3 hf bw3 Fw3
  go_wp2_with fail
  refine (rdNums_any _ _ _ _ hrw4).mono ?_
  rintro e w5 ⟨n5, rfl, o5, q5, hrw5, hf, v5⟩
  have u5 := Lib.hid (kL_stick (f := kI) (s := s4))
  generalize kL kI s4 = s5 at hrw5 HS v5 u5
  unfold Hd.v
  have bw5 := bw4.fr hf hgr
  have Fw5 := Fw4.trans hf
  replace o1 := okH_fr ftPt o1 hf (fun b hb e => by have := q1 b hb; omega)
  replace o2 := okH_fr ftCh o2 hf (fun b hb e => by have := q2 b hb; omega)
  replace o3 := okH_fr ftMd o3 hf (fun b hb e => by have := q3 b hb; omega)
  replace o4 := ftPw.fr o4 hf (fun b hb e => by have := q4 b hb; omega)
  replace q5 : ∀ b, ftInts.blk n5 b → gr < b ∧ g < b := fun b hb => by have := q5 b hb; have := Fw4.size; have := bw4.lt; exact ⟨by omega, by omega⟩
  clear hrw4 hf bw4 Fw4
  go_wp2_with fail
  refine (rdNums_any _ _ _ _ hrw5).mono ?_
  rintro e w6 ⟨n6, rfl, o6, q6, hrw6, hf, v6⟩
  have u6 := Lib.hid (kL_stick (f := kI) (s := s5))
  generalize kL kI s5 = s6 at hrw6 HS v6 u6
  unfold Hd.v
  have bw6 := bw5.fr hf hgr
  have Fw6 := Fw5.trans hf
  replace o1 := okH_fr ftPt o1 hf (fun b hb e => by have := q1 b hb; omega)
  replace o2 := okH_fr ftCh o2 hf (fun b hb e => by have := q2 b hb; omega)
  replace o3 := okH_fr ftMd o3 hf (fun b hb e => by have := q3 b hb; omega)
  replace o4 := ftPw.fr o4 hf (fun b hb e => by have := q4 b hb; omega)
  replace o5 := ftInts.fr o5 hf (fun b hb e => by have := q5 b hb; omega)
  replace q6 : ∀ b, ftInts.blk n6 b → gr < b ∧ g < b := fun b hb => by have := q6 b hb; have := Fw5.size; have := bw5.lt; exact ⟨by omega, by omega⟩
  clear hrw5 hf bw5 Fw5
  have hbp := (Below.refl w6.heap.size w6).alloc (Nat.le_refl _) (.cells #[.slice n1.A n1.l.length n1.c, .slice n2.A n2.l.length n2.c, .slice n3.A n3.l.length n3.c, .slice n4.levels.A n4.levels.l.length n4.levels.c, .slice n4.naps.A n4.naps.l.length n4.naps.c, .int .i64 n4.sw, .int .i64 n4.idle, .int .i64 n4.change, .int .i64 n4.quant, .int .i64 n4.slow, .int .i64 n4.ppm, .slice n5.A n5.l.length n5.c, .slice n6.A n6.l.length n6.c] 33)
  have bp := Blk.new w6 33 #[.slice n1.A n1.l.length n1.c, .slice n2.A n2.l.length n2.c, .slice n3.A n3.l.length n3.c, .slice n4.levels.A n4.levels.l.length n4.levels.c, .slice n4.naps.A n4.naps.l.length n4.naps.c, .int .i64 n4.sw, .int .i64 n4.idle, .int .i64 n4.change, .int .i64 n4.quant, .int .i64 n4.slow, .int .i64 n4.ppm, .slice n5.A n5.l.length n5.c, .slice n6.A n6.l.length n6.c]
  have hr7 := hrw6.keep hbp
  have b7 := bw6.keep hbp
  have F7 : Fr (fun q => q = g) w0 (w6.alloc (.cells #[.slice n1.A n1.l.length n1.c, .slice n2.A n2.l.length n2.c, .slice n3.A n3.l.length n3.c, .slice n4.levels.A n4.levels.l.length n4.levels.c, .slice n4.naps.A n4.naps.l.length n4.naps.c, .int .i64 n4.sw, .int .i64 n4.idle, .int .i64 n4.change, .int .i64 n4.quant, .int .i64 n4.slow, .int .i64 n4.ppm, .slice n5.A n5.l.length n5.c, .slice n6.A n6.l.length n6.c] 33)) := Fw6.trans (Fr.of_below hbp _)
  have hBw := bw6.lt
  go_upto_region 5 with fail
  replace o1 := okH_fr ftPt o1 (Fr.of_below hbp (fun _ => False)) (fun b hb e => e.elim)
  replace o2 := okH_fr ftCh o2 (Fr.of_below hbp (fun _ => False)) (fun b hb e => e.elim)
  replace o3 := okH_fr ftMd o3 (Fr.of_below hbp (fun _ => False)) (fun b hb e => e.elim)
  replace o4 := ftPw.fr o4 (Fr.of_below hbp (fun _ => False)) (fun b hb e => e.elim)
  replace o5 := ftInts.fr o5 (Fr.of_below hbp (fun _ => False)) (fun b hb e => e.elim)
  replace o6 := ftInts.fr o6 (Fr.of_below hbp (fun _ => False)) (fun b hb e => e.elim)
  generalize w6.alloc (.cells #[.slice n1.A n1.l.length n1.c, .slice n2.A n2.l.length n2.c, .slice n3.A n3.l.length n3.c, .slice n4.levels.A n4.levels.l.length n4.levels.c, .slice n4.naps.A n4.naps.l.length n4.naps.c, .int .i64 n4.sw, .int .i64 n4.idle, .int .i64 n4.change, .int .i64 n4.quant, .int .i64 n4.slow, .int .i64 n4.ppm, .slice n5.A n5.l.length n5.c, .slice n6.A n6.l.length n6.c] 33) = w7 at hbp bp hr7 b7 F7 o1 o2 o3 o4 o5 o6 ⊢
  obtain ⟨gp, hgp⟩ : ∃ gp, gp = w6.heap.size := ⟨_, rfl⟩
  rw [← hgp] at bp ⊢
  have hrp : ¬ gr = gp := by omega
  clear hgp hrw6 bw6 Fw6 hbp
  go_wp2_with fail
  refine (end_any hr7).mono ?_
  rintro e w8 ⟨rfl, hw8⟩
  subst hw8
  have HZ : Hid (decE l = endS s6) := by unfold Hid decE; rw [← HSL.out, HS.out]
  have HE := Lib.hid (endS_zero (s := s6))
  have B7 : Below w.heap.size w w7 := hBr.trans (F7.below (fun q hq e => by omega) hBr.size)
  generalize endS s6 = z at HZ HE ⊢
  have z0 : w7.cell? ⟨gr, 0, none⟩ = some (.slice none 0 0) := b7.cell 0
  have z1 : w7.cell? ⟨gr, 1, none⟩ = some (.slice none 0 0) := b7.cell 1
  have z2 : w7.cell? ⟨gr, 2, none⟩ = some (.slice none 0 0) := b7.cell 2
  have z3 : w7.cell? ⟨gr, 3, none⟩ = some (.slice none 0 0) := b7.cell 3
  have z4 : w7.cell? ⟨gr, 4, none⟩ = some (.slice none 0 0) := b7.cell 4
  have z5 : w7.cell? ⟨gr, 5, none⟩ = some (.int .i64 0) := b7.cell 5
  have z6 : w7.cell? ⟨gr, 6, none⟩ = some (.int .i64 0) := b7.cell 6
  have z7 : w7.cell? ⟨gr, 7, none⟩ = some (.int .i64 0) := b7.cell 7
  have z8 : w7.cell? ⟨gr, 8, none⟩ = some (.int .i64 0) := b7.cell 8
  have z9 : w7.cell? ⟨gr, 9, none⟩ = some (.int .i64 0) := b7.cell 9
  have z10 : w7.cell? ⟨gr, 10, none⟩ = some (.int .i64 0) := b7.cell 10
  have z11 : w7.cell? ⟨gr, 11, none⟩ = some (.slice none 0 0) := b7.cell 11
  have z12 : w7.cell? ⟨gr, 12, none⟩ = some (.slice none 0 0) := b7.cell 12
  have fz : ∀ i, w7.frozen? ⟨gr, i, none⟩ = false := b7.frozen
  have lr := b7.lt
  have lp := bp.lt
  by_cases hz : z = 0
  · subst hz
    obtain ⟨he, hl9⟩ := HE.out rfl
    have pc0 : w7.cell? ⟨gp, 0, none⟩ = some (.slice n1.A n1.l.length n1.c) := bp.cell 0
    have pc1 : w7.cell? ⟨gp, 1, none⟩ = some (.slice n2.A n2.l.length n2.c) := bp.cell 1
    have pc2 : w7.cell? ⟨gp, 2, none⟩ = some (.slice n3.A n3.l.length n3.c) := bp.cell 2
    have pc3 : w7.cell? ⟨gp, 3, none⟩ = some (.slice n4.levels.A n4.levels.l.length n4.levels.c) := bp.cell 3
    have pc4 : w7.cell? ⟨gp, 4, none⟩ = some (.slice n4.naps.A n4.naps.l.length n4.naps.c) := bp.cell 4
    have pc5 : w7.cell? ⟨gp, 5, none⟩ = some (.int .i64 n4.sw) := bp.cell 5
    have pc6 : w7.cell? ⟨gp, 6, none⟩ = some (.int .i64 n4.idle) := bp.cell 6
    have pc7 : w7.cell? ⟨gp, 7, none⟩ = some (.int .i64 n4.change) := bp.cell 7
    have pc8 : w7.cell? ⟨gp, 8, none⟩ = some (.int .i64 n4.quant) := bp.cell 8
    have pc9 : w7.cell? ⟨gp, 9, none⟩ = some (.int .i64 n4.slow) := bp.cell 9
    have pc10 : w7.cell? ⟨gp, 10, none⟩ = some (.int .i64 n4.ppm) := bp.cell 10
    have pc11 : w7.cell? ⟨gp, 11, none⟩ = some (.slice n5.A n5.l.length n5.c) := bp.cell 11
    have pc12 : w7.cell? ⟨gp, 12, none⟩ = some (.slice n6.A n6.l.length n6.c) := bp.cell 12
    have HX : Hid (encCf ⟨n1, n2, n3, n4, ⟨n5, n6⟩⟩ = l ∧ badCf ⟨n1, n2, n3, n4, ⟨n5, n6⟩⟩ = false) := by
      obtain ⟨l6, d6⟩ := v6.out he
      have e6 := u6.out he
      obtain ⟨l5, d5⟩ := v5.out e6
      have e5 := u5.out e6
      obtain ⟨l4, d4⟩ := v4.out e5
      have e4 := u4.out e5
      obtain ⟨l3, d3⟩ := v3.out e4
      have e3 := u3.out e4
      obtain ⟨l2, d2⟩ := v2.out e3
      have e2 := u2.out e3
      obtain ⟨l1, d1⟩ := v1.out e2
      have e1 := u1.out e2
      refine ⟨?_, by unfold badCf; simp [d1, d2, d3, d4, d5, d6]⟩
      have e0 : s.l = l := by rw [HSL.out]
      rw [← e0, l1, l2, l3, l4, l5, l6, hl9]
      unfold encCf
      simp only [List.append_assoc, List.append_nil]
    clear he hl9 HE
    go_wp2_with fail
    have rK : Blk (setRow w7 gr 0 [.slice n1.A n1.l.length n1.c, .slice n2.A n2.l.length n2.c, .slice n3.A n3.l.length n3.c, .slice n4.levels.A n4.levels.l.length n4.levels.c, .slice n4.naps.A n4.naps.l.length n4.naps.c, .int .i64 n4.sw, .int .i64 n4.idle, .int .i64 n4.change, .int .i64 n4.quant, .int .i64 n4.slow, .int .i64 n4.ppm, .slice n5.A n5.l.length n5.c, .slice n6.A n6.l.length n6.c]) gr 33 _ := Blk.row b7 rfl
    have rF : Fr (fun q => q = gr) w7 (setRow w7 gr 0 [.slice n1.A n1.l.length n1.c, .slice n2.A n2.l.length n2.c, .slice n3.A n3.l.length n3.c, .slice n4.levels.A n4.levels.l.length n4.levels.c, .slice n4.naps.A n4.naps.l.length n4.naps.c, .int .i64 n4.sw, .int .i64 n4.idle, .int .i64 n4.change, .int .i64 n4.quant, .int .i64 n4.slow, .int .i64 n4.ppm, .slice n5.A n5.l.length n5.c, .slice n6.A n6.l.length n6.c]) := Fr.row _ 0 (Fr.refl _ _) (fun _ => rfl)
    simp only [setRow, Nat.zero_add, Nat.reduceAdd] at rK rF
    generalize ((((((((((((w7.setCell ⟨gr, 0, none⟩ (.slice n1.A n1.l.length n1.c)).setCell ⟨gr, 1, none⟩ (.slice n2.A n2.l.length n2.c)).setCell ⟨gr, 2, none⟩ (.slice n3.A n3.l.length n3.c)).setCell ⟨gr, 3, none⟩ (.slice n4.levels.A n4.levels.l.length n4.levels.c)).setCell ⟨gr, 4, none⟩ (.slice n4.naps.A n4.naps.l.length n4.naps.c)).setCell ⟨gr, 5, none⟩ (.int .i64 n4.sw)).setCell ⟨gr, 6, none⟩ (.int .i64 n4.idle)).setCell ⟨gr, 7, none⟩ (.int .i64 n4.change)).setCell ⟨gr, 8, none⟩ (.int .i64 n4.quant)).setCell ⟨gr, 9, none⟩ (.int .i64 n4.slow)).setCell ⟨gr, 10, none⟩ (.int .i64 n4.ppm)).setCell ⟨gr, 11, none⟩ (.slice n5.A n5.l.length n5.c)).setCell ⟨gr, 12, none⟩ (.slice n6.A n6.l.length n6.c) = w9 at rK rF ⊢
    have y0 : w9.cell? ⟨gr, 0, none⟩ = some (.slice n1.A n1.l.length n1.c) := rK.cell 0
    have y1 : w9.cell? ⟨gr, 1, none⟩ = some (.slice n2.A n2.l.length n2.c) := rK.cell 1
    have y2 : w9.cell? ⟨gr, 2, none⟩ = some (.slice n3.A n3.l.length n3.c) := rK.cell 2
    have y3 : w9.cell? ⟨gr, 3, none⟩ = some (.slice n4.levels.A n4.levels.l.length n4.levels.c) := rK.cell 3
    have y4 : w9.cell? ⟨gr, 4, none⟩ = some (.slice n4.naps.A n4.naps.l.length n4.naps.c) := rK.cell 4
    have y5 : w9.cell? ⟨gr, 5, none⟩ = some (.int .i64 n4.sw) := rK.cell 5
    have y6 : w9.cell? ⟨gr, 6, none⟩ = some (.int .i64 n4.idle) := rK.cell 6
    have y7 : w9.cell? ⟨gr, 7, none⟩ = some (.int .i64 n4.change) := rK.cell 7
    have y8 : w9.cell? ⟨gr, 8, none⟩ = some (.int .i64 n4.quant) := rK.cell 8
    have y9 : w9.cell? ⟨gr, 9, none⟩ = some (.int .i64 n4.slow) := rK.cell 9
    have y10 : w9.cell? ⟨gr, 10, none⟩ = some (.int .i64 n4.ppm) := rK.cell 10
    have y11 : w9.cell? ⟨gr, 11, none⟩ = some (.slice n5.A n5.l.length n5.c) := rK.cell 11
    have y12 : w9.cell? ⟨gr, 12, none⟩ = some (.slice n6.A n6.l.length n6.c) := rK.cell 12
    have B9 : Below w.heap.size w w9 := B7.trans (rF.below (fun q hq e => by omega) B7.size)
    try simp only [Exit.inBlock, Exit.then]
    refine bodyPost_ret (v := .tuple #[.agg #[.slice n1.A n1.l.length n1.c, .slice n2.A n2.l.length n2.c, .slice n3.A n3.l.length n3.c, .slice n4.levels.A n4.levels.l.length n4.levels.c, .slice n4.naps.A n4.naps.l.length n4.naps.c, .int .i64 n4.sw, .int .i64 n4.idle, .int .i64 n4.change, .int .i64 n4.quant, .int .i64 n4.slow, .int .i64 n4.ppm, .slice n5.A n5.l.length n5.c, .slice n6.A n6.l.length n6.c], .int .i64 0]) (by simp [results, Tryz.results11, go_sem, y0, y1, y2, y3, y4, y5, y6, y7, y8, y9, y10, y11, y12]) rfl ?_
    replace o1 := okH_fr ftPt o1 rF (fun b hb e => by have := q1 b hb; omega)
    replace o2 := okH_fr ftCh o2 rF (fun b hb e => by have := q2 b hb; omega)
    replace o3 := okH_fr ftMd o3 rF (fun b hb e => by have := q3 b hb; omega)
    replace o4 := ftPw.fr o4 rF (fun b hb e => by have := q4 b hb; omega)
    replace o5 := ftInts.fr o5 rF (fun b hb e => by have := q5 b hb; omega)
    replace o6 := ftInts.fr o6 rF (fun b hb e => by have := q6 b hb; omega)
    exact ⟨⟨n1, n2, n3, n4, ⟨n5, n6⟩⟩, 0, rfl, ⟨o1, o2, o3, o4, o5, o6⟩, B9, HZ.out.symm, fun _ => HX.out, fun h => absurd rfl h⟩
  · have hz' : (z != 0) = true := by simpa using hz
    have HNZ := Lib.hid hz
    clear hz
    go_wp2_with fail
    have rK : Blk (setRow w7 gr 0 [.slice none 0 0, .slice none 0 0, .slice none 0 0, .slice none 0 0, .slice none 0 0, .int .i64 0, .int .i64 0, .int .i64 0, .int .i64 0, .int .i64 0, .int .i64 0, .slice none 0 0, .slice none 0 0]) gr 33 _ := Blk.row b7 rfl
    have rF : Fr (fun q => q = gr) w7 (setRow w7 gr 0 [.slice none 0 0, .slice none 0 0, .slice none 0 0, .slice none 0 0, .slice none 0 0, .int .i64 0, .int .i64 0, .int .i64 0, .int .i64 0, .int .i64 0, .int .i64 0, .slice none 0 0, .slice none 0 0]) := Fr.row _ 0 (Fr.refl _ _) (fun _ => rfl)
    simp only [setRow, Nat.zero_add, Nat.reduceAdd] at rK rF
    generalize ((((((((((((w7.setCell ⟨gr, 0, none⟩ (.slice none 0 0)).setCell ⟨gr, 1, none⟩ (.slice none 0 0)).setCell ⟨gr, 2, none⟩ (.slice none 0 0)).setCell ⟨gr, 3, none⟩ (.slice none 0 0)).setCell ⟨gr, 4, none⟩ (.slice none 0 0)).setCell ⟨gr, 5, none⟩ (.int .i64 0)).setCell ⟨gr, 6, none⟩ (.int .i64 0)).setCell ⟨gr, 7, none⟩ (.int .i64 0)).setCell ⟨gr, 8, none⟩ (.int .i64 0)).setCell ⟨gr, 9, none⟩ (.int .i64 0)).setCell ⟨gr, 10, none⟩ (.int .i64 0)).setCell ⟨gr, 11, none⟩ (.slice none 0 0)).setCell ⟨gr, 12, none⟩ (.slice none 0 0) = w9 at rK rF ⊢
    have y0 : w9.cell? ⟨gr, 0, none⟩ = some (.slice none 0 0) := rK.cell 0
    have y1 : w9.cell? ⟨gr, 1, none⟩ = some (.slice none 0 0) := rK.cell 1
    have y2 : w9.cell? ⟨gr, 2, none⟩ = some (.slice none 0 0) := rK.cell 2
    have y3 : w9.cell? ⟨gr, 3, none⟩ = some (.slice none 0 0) := rK.cell 3
    have y4 : w9.cell? ⟨gr, 4, none⟩ = some (.slice none 0 0) := rK.cell 4
    have y5 : w9.cell? ⟨gr, 5, none⟩ = some (.int .i64 0) := rK.cell 5
    have y6 : w9.cell? ⟨gr, 6, none⟩ = some (.int .i64 0) := rK.cell 6
    have y7 : w9.cell? ⟨gr, 7, none⟩ = some (.int .i64 0) := rK.cell 7
    have y8 : w9.cell? ⟨gr, 8, none⟩ = some (.int .i64 0) := rK.cell 8
    have y9 : w9.cell? ⟨gr, 9, none⟩ = some (.int .i64 0) := rK.cell 9
    have y10 : w9.cell? ⟨gr, 10, none⟩ = some (.int .i64 0) := rK.cell 10
    have y11 : w9.cell? ⟨gr, 11, none⟩ = some (.slice none 0 0) := rK.cell 11
    have y12 : w9.cell? ⟨gr, 12, none⟩ = some (.slice none 0 0) := rK.cell 12
    have B9 : Below w.heap.size w w9 := B7.trans (rF.below (fun q hq e => by omega) B7.size)
    try simp only [Exit.inBlock, Exit.then]
    refine bodyPost_ret (v := .tuple #[.agg #[.slice none 0 0, .slice none 0 0, .slice none 0 0, .slice none 0 0, .slice none 0 0, .int .i64 0, .int .i64 0, .int .i64 0, .int .i64 0, .int .i64 0, .int .i64 0, .slice none 0 0, .slice none 0 0], .int .i64 z]) (by simp [results, Tryz.results11, go_sem, y0, y1, y2, y3, y4, y5, y6, y7, y8, y9, y10, y11, y12]) rfl ?_
    exact ⟨Cf0, z, rfl, cf0_ok _, B9, HZ.out.symm, fun h => absurd h HNZ.out, fun _ => rfl⟩
end Go.Proofs.YtahjnonkhbpnpaaGreat
/- The small check of the laws on conf. -/
namespace Go.Proofs.YtahjnonkhbpnpaaGreat
open Go.RowKit
def cf1 : Cf := ⟨⟨none, 0, []⟩, ⟨none, 0, []⟩, ⟨none, 0, []⟩, ⟨⟨none, 0, []⟩, ⟨none, 0, []⟩, 0, 0, 0, 0, 0, 1⟩, ⟨⟨none, 0, []⟩, ⟨none, 0, []⟩⟩⟩
theorem cf1_ok (w : World) : rdCf.ok w cf1 := by
  have z0 : i64 0 := by unfold i64; omega
  have z1 : i64 1 := by unfold i64; omega
  exact ⟨hd_none _ _, hd_none _ _, hd_none _ _, ⟨hd_none _ _, hd_none _ _, z0, z0, z0, z0, z0, z1⟩, SlI.nil w, SlI.nil w⟩
theorem cf0_badCf : badCf Cf0 = false := by decide
theorem cf0_short : Cf0.short := short_ok cf0_badCf
theorem cf0_ne1 : bCf Cf0 ≠ bCf cf1 := fun h => by
  have := congrArg (fun x : Cf => x.pw.ppm) h
  exact absurd this (by decide)
theorem cf0_out : encOut Cf0 = [0, 0, 0, 0, 0, 0, 0, 0, 0, 0, 0, 0, 0] := by
  unfold encOut
  rw [cf0_bad, if_neg Bool.false_ne_true, cf0_enc]
set_option maxRecDepth 100000 in
set_option maxHeartbeats 3200000 in
theorem works_any (w : World) : Calls Tryz.prog 8 #[] w fun e w' => e = .returned (.bool true) ∧ Below w.heap.size w w' := by
  go_enter Tryz.func8, Tryz.ntmps8
  go_wp2_with fail
  refine (encode_any (x := Cf0) (cf0_ok w) cf0_short).mono ?_
  rintro e w1 ⟨v, z, rfl, hz, hown, hb1⟩
  rw [cf0_bad] at hz
  have hz0 : z = 0 := hz
  subst hz0
  rw [cf0_out] at hown
  obtain ⟨A, c, rfl, hs, -⟩ := SlB.of_own hown
  rw [show ([0, 0, 0, 0, 0, 0, 0, 0, 0, 0, 0, 0, 0] : List UInt8).length = 13 from rfl] at hs ⊢
  clear hz hown
  go_wp2_with fail
  refine (decode_any hs (by decide)).mono ?_
  rintro e w2 ⟨x, z, rfl, hx, hb2, hz, h0, hn⟩
  have hd : decE [0, 0, 0, 0, 0, 0, 0, 0, 0, 0, 0, 0, 0] = 0 := by rw [← cf0_enc]; exact decE_enc (cf0_ok w) cf0_badCf
  rw [hd] at hz
  subst hz
  have HX : Hid (bCf x = bCf Cf0) := encCf_inj (W := w2) hx (cf0_ok w2) ((h0 rfl).1.trans cf0_enc.symm)
  have hB2 := hb1.trans (hb2.mono hb1.size)
  clear hd h0 hn hs hb2
  have hb3 := (Below.refl w2.heap.size w2).alloc (Nat.le_refl _) (.cells #[.slice x.parts.A x.parts.l.length x.parts.c, .slice x.chans.A x.chans.l.length x.chans.c, .slice x.modes.A x.modes.l.length x.modes.c, .slice x.pw.levels.A x.pw.levels.l.length x.pw.levels.c, .slice x.pw.naps.A x.pw.naps.l.length x.pw.naps.c, .int .i64 x.pw.sw, .int .i64 x.pw.idle, .int .i64 x.pw.change, .int .i64 x.pw.quant, .int .i64 x.pw.slow, .int .i64 x.pw.ppm, .slice x.shed.down.A x.shed.down.l.length x.shed.down.c, .slice x.shed.up.A x.shed.up.l.length x.shed.up.c] 33)
  have k3 := Blk.new w2 33 #[.slice x.parts.A x.parts.l.length x.parts.c, .slice x.chans.A x.chans.l.length x.chans.c, .slice x.modes.A x.modes.l.length x.modes.c, .slice x.pw.levels.A x.pw.levels.l.length x.pw.levels.c, .slice x.pw.naps.A x.pw.naps.l.length x.pw.naps.c, .int .i64 x.pw.sw, .int .i64 x.pw.idle, .int .i64 x.pw.change, .int .i64 x.pw.quant, .int .i64 x.pw.slow, .int .i64 x.pw.ppm, .slice x.shed.down.A x.shed.down.l.length x.shed.down.c, .slice x.shed.up.A x.shed.up.l.length x.shed.up.c]
  have hx3 := rdCf.keep hx hb3
  unfold Cf.v
  go_upto_region 3 with fail
  generalize w2.alloc (.cells #[.slice x.parts.A x.parts.l.length x.parts.c, .slice x.chans.A x.chans.l.length x.chans.c, .slice x.modes.A x.modes.l.length x.modes.c, .slice x.pw.levels.A x.pw.levels.l.length x.pw.levels.c, .slice x.pw.naps.A x.pw.naps.l.length x.pw.naps.c, .int .i64 x.pw.sw, .int .i64 x.pw.idle, .int .i64 x.pw.change, .int .i64 x.pw.quant, .int .i64 x.pw.slow, .int .i64 x.pw.ppm, .slice x.shed.down.A x.shed.down.l.length x.shed.down.c, .slice x.shed.up.A x.shed.up.l.length x.shed.up.c] 33) = w3 at hb3 k3 hx3 ⊢
  have hB3 := hB2.trans (hb3.mono hB2.size)
  generalize w2.heap.size = g at k3 ⊢
  have c0 : w3.cell? ⟨g, 0, none⟩ = some (.slice x.parts.A x.parts.l.length x.parts.c) := k3.cell 0
  have c1 : w3.cell? ⟨g, 1, none⟩ = some (.slice x.chans.A x.chans.l.length x.chans.c) := k3.cell 1
  have c2 : w3.cell? ⟨g, 2, none⟩ = some (.slice x.modes.A x.modes.l.length x.modes.c) := k3.cell 2
  have c3 : w3.cell? ⟨g, 3, none⟩ = some (.slice x.pw.levels.A x.pw.levels.l.length x.pw.levels.c) := k3.cell 3
  have c4 : w3.cell? ⟨g, 4, none⟩ = some (.slice x.pw.naps.A x.pw.naps.l.length x.pw.naps.c) := k3.cell 4
  have c5 : w3.cell? ⟨g, 5, none⟩ = some (.int .i64 x.pw.sw) := k3.cell 5
  have c6 : w3.cell? ⟨g, 6, none⟩ = some (.int .i64 x.pw.idle) := k3.cell 6
  have c7 : w3.cell? ⟨g, 7, none⟩ = some (.int .i64 x.pw.change) := k3.cell 7
  have c8 : w3.cell? ⟨g, 8, none⟩ = some (.int .i64 x.pw.quant) := k3.cell 8
  have c9 : w3.cell? ⟨g, 9, none⟩ = some (.int .i64 x.pw.slow) := k3.cell 9
  have c10 : w3.cell? ⟨g, 10, none⟩ = some (.int .i64 x.pw.ppm) := k3.cell 10
  have c11 : w3.cell? ⟨g, 11, none⟩ = some (.slice x.shed.down.A x.shed.down.l.length x.shed.down.c) := k3.cell 11
  have c12 : w3.cell? ⟨g, 12, none⟩ = some (.slice x.shed.up.A x.shed.up.l.length x.shed.up.c) := k3.cell 12
  have lg := k3.lt
  go_wp2_with fail
  refine (same_Cf (y := Cf0) hx3 (cf0_ok w3)).mono ?_
  rintro e w4 ⟨b, rfl, hb, hbl⟩
  have hbt : b = true := hb.2 HX.out
  subst hbt
  have k4 := k3.keep hbl
  have hx4 := rdCf.keep hx3 hbl
  have hB4 := hB3.trans (hbl.mono hB3.size)
  clear c0 c1 c2 c3 c4 c5 c6 c7 c8 c9 c10 c11 c12 hb hbl lg
  have c0 : w4.cell? ⟨g, 0, none⟩ = some (.slice x.parts.A x.parts.l.length x.parts.c) := k4.cell 0
  have c1 : w4.cell? ⟨g, 1, none⟩ = some (.slice x.chans.A x.chans.l.length x.chans.c) := k4.cell 1
  have c2 : w4.cell? ⟨g, 2, none⟩ = some (.slice x.modes.A x.modes.l.length x.modes.c) := k4.cell 2
  have c3 : w4.cell? ⟨g, 3, none⟩ = some (.slice x.pw.levels.A x.pw.levels.l.length x.pw.levels.c) := k4.cell 3
  have c4 : w4.cell? ⟨g, 4, none⟩ = some (.slice x.pw.naps.A x.pw.naps.l.length x.pw.naps.c) := k4.cell 4
  have c5 : w4.cell? ⟨g, 5, none⟩ = some (.int .i64 x.pw.sw) := k4.cell 5
  have c6 : w4.cell? ⟨g, 6, none⟩ = some (.int .i64 x.pw.idle) := k4.cell 6
  have c7 : w4.cell? ⟨g, 7, none⟩ = some (.int .i64 x.pw.change) := k4.cell 7
  have c8 : w4.cell? ⟨g, 8, none⟩ = some (.int .i64 x.pw.quant) := k4.cell 8
  have c9 : w4.cell? ⟨g, 9, none⟩ = some (.int .i64 x.pw.slow) := k4.cell 9
  have c10 : w4.cell? ⟨g, 10, none⟩ = some (.int .i64 x.pw.ppm) := k4.cell 10
  have c11 : w4.cell? ⟨g, 11, none⟩ = some (.slice x.shed.down.A x.shed.down.l.length x.shed.down.c) := k4.cell 11
  have c12 : w4.cell? ⟨g, 12, none⟩ = some (.slice x.shed.up.A x.shed.up.l.length x.shed.up.c) := k4.cell 12
  have lg := k4.lt
  go_wp2_with fail
  refine (same_Cf (y := cf1) hx4 (cf1_ok w4)).mono ?_
  rintro e w5 ⟨b, rfl, hb, hbl⟩
  have hbf : b = false := by
    cases b with
    | false => rfl
    | true => exact absurd (HX.out.symm.trans (hb.1 rfl)) cf0_ne1
  subst hbf
  have hB5 := hB4.trans (hbl.mono hB4.size)
  clear hb hbl
  go_wp2_with fail
  go_ret
  exact ⟨rfl, hB5⟩
end Go.Proofs.YtahjnonkhbpnpaaGreat
/- How arguments are read: bytes, strings, unsigned numbers. -/
namespace Go.Proofs.YtahjnonkhbpnpaaGreat
open Go.ChangeShapes Go.WideShapes Go.ChangeAt Go.RowKit Go.Joins
section
variable {P : Program} {H : Type} {enc : TypeId × Value → H} {W : World}
theorem u8_of_wf {n : Int} (h : (Lit.int .u8 n).wf = true) : 0 ≤ n ∧ n < 256 := by
  have h1 : IntKind.u8.min = 0 := rfl
  have h2 : IntKind.u8.max = 255 := rfl
  simp only [Lit.wf, Bool.and_eq_true, decide_eq_true_eq, h1, h2] at h
  omega
theorem u16_of_wf {n : Int} (h : (Lit.int .u16 n).wf = true) : 0 ≤ n ∧ n < 65536 := by
  have h1 : IntKind.u16.min = 0 := rfl
  have h2 : IntKind.u16.max = 65535 := rfl
  simp only [Lit.wf, Bool.and_eq_true, decide_eq_true_eq, h1, h2] at h
  omega
theorem u32_of_wf {n : Int} (h : (Lit.int .u32 n).wf = true) : 0 ≤ n ∧ n < 4294967296 := by
  have h1 : IntKind.u32.min = 0 := rfl
  have h2 : IntKind.u32.max = 4294967295 := rfl
  simp only [Lit.wf, Bool.and_eq_true, decide_eq_true_eq, h1, h2] at h
  omega
theorem u64_of_wf {n : Int} (h : (Lit.int .u64 n).wf = true) : 0 ≤ n ∧ n < 18446744073709551616 := by
  have h1 : IntKind.u64.min = 0 := rfl
  have h2 : IntKind.u64.max = 18446744073709551615 := rfl
  simp only [Lit.wf, Bool.and_eq_true, decide_eq_true_eq, h1, h2] at h
  omega
section
variable {r : Reach} {base : Nat} {t : TypeId} {v : Value} {d : DataW H} {p : List MemPlace} (hv : Value.okWide P W r base t v) (h : DataW.Trod enc P W 0 (fun _ => true) true t v d p)
include hv h
theorem arg_u8 (ht : P.underlying t = some (.int .u8)) : ∃ n : Nat, v = .int .u8 n ∧ n < 256 := by
  obtain ⟨n, rfl, _, _, wn⟩ := open_int ht hv h
  obtain ⟨h1, h2⟩ := u8_of_wf wn
  exact ⟨n.toNat, by rw [Int.toNat_of_nonneg h1], by omega⟩
theorem arg_u16 (ht : P.underlying t = some (.int .u16)) : ∃ n : Nat, v = .int .u16 n ∧ n < 65536 := by
  obtain ⟨n, rfl, _, _, wn⟩ := open_int ht hv h
  obtain ⟨h1, h2⟩ := u16_of_wf wn
  exact ⟨n.toNat, by rw [Int.toNat_of_nonneg h1], by omega⟩
theorem arg_u32 (ht : P.underlying t = some (.int .u32)) : ∃ n : Nat, v = .int .u32 n ∧ n < 4294967296 := by
  obtain ⟨n, rfl, _, _, wn⟩ := open_int ht hv h
  obtain ⟨h1, h2⟩ := u32_of_wf wn
  exact ⟨n.toNat, by rw [Int.toNat_of_nonneg h1], by omega⟩
theorem arg_u64 (ht : P.underlying t = some (.int .u64)) : ∃ n : Nat, v = .int .u64 n ∧ n < 18446744073709551616 := by
  obtain ⟨n, rfl, _, _, wn⟩ := open_int ht hv h
  obtain ⟨h1, h2⟩ := u64_of_wf wn
  exact ⟨n.toNat, by rw [Int.toNat_of_nonneg h1], by omega⟩
theorem arg_str (ht : P.underlying t = some .string) : ∃ s : ByteArray, v = .string s ∧ s.size ≤ 9223372036854775807 := by
  obtain ⟨s, rfl, _, _, hs⟩ := Go.ChangeMaps.open_string ht hv h
  exact ⟨s, rfl, by simpa [maxLen] using hs⟩
end
theorem trod_SlB {t e : TypeId} (ht : P.underlying t = some (.slice e)) (he : P.underlying e = some (.int .u8)) (hC : P.cellsOf e = 1) {fuel : Nat} {v : Value} {x : DataW H × List MemPlace}
    (h : DataW.trod enc P W 0 (fun _ => true) true fuel t [v] = some x) : ∃ A n c l, v = .slice A n c ∧ SlB W A n c l := by
  rcases open_ints ht he hC h with ⟨hcs, _⟩ | ⟨a, len, cap, zs, hcs, _, hl, hm, hz, _, hcell, hwz⟩
  · cases hcs
    exact ⟨none, 0, 0, [], rfl, SlB.nil W⟩
  · cases hcs
    have hz' : zs.length = cap := by simpa using hz
    refine ⟨some a, len, cap, (zs.take len).map fun z => z.toNat.toUInt8, rfl, ⟨⟨by simp; omega, hl, hm, (fun e => by cases e), fun hn => ?_⟩, by simp; omega⟩⟩
    have h0 := hcell 0 (by omega)
    obtain ⟨b, o, spot⟩ := a
    have hspot : spot = none := by simpa [Addr.add] using World.cell?_spot h0
    subst hspot
    refine ⟨b, o, rfl, ?_, fun j u hu => ?_⟩
    · have := World.block_lt_of_cell? W _ h0
      simpa [Addr.add] using this
    · have hj : j < len := by
        have := (List.getElem?_eq_some_iff.1 hu).1
        simp at this
        omega
      have hc := hcell j (by omega)
      have hadd : (⟨b, o, none⟩ : Addr).add j = ⟨b, o + j, none⟩ := add_none b o j
      rw [hadd] at hc
      rw [hc, ← hu]
      have hw := u8_of_wf (hwz _ (List.getElem_mem (show j < zs.length by omega)))
      have hb : bv (zs[j]'(by omega)).toNat.toUInt8 = .int .u8 (zs[j]'(by omega)) := by
        have : ((zs[j]'(by omega)).toNat.toUInt8).toNat = (zs[j]'(by omega)).toNat := by
          show (UInt8.ofNat _).toNat = _
          rw [UInt8.toNat_ofNat']
          omega
        unfold bv
        rw [this, Int.toNat_of_nonneg hw.1]
      rw [List.map_map, List.getElem?_map, List.getElem?_take, if_pos hj, List.getElem?_eq_getElem (show j < zs.length by omega), List.getD, List.getElem?_eq_getElem (show j < zs.length by omega)]
      exact congrArg some hb.symm
theorem arg_SlB {r : Reach} {base : Nat} {t e : TypeId} (ht : P.underlying t = some (.slice e)) (he : P.underlying e = some (.int .u8)) (hC : P.cellsOf e = 1) {v : Value} {d : DataW H} {p : List MemPlace} (hv : Value.okWide P W r base t v)
    (h : DataW.Trod enc P W 0 (fun _ => true) true t v d p) : ∃ A n c l, v = .slice A n c ∧ SlB W A n c l := by
  obtain ⟨a, len, cap, rfl⟩ := okWide_slice ht hv
  obtain ⟨fuel, hf⟩ := h
  exact trod_SlB ht he hC (fuel := fuel) (by simpa [Value.cells] using hf)
end
end Go.Proofs.YtahjnonkhbpnpaaGreat
