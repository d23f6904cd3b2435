/- The law GroundPacks returns true whatever the input. -/
import Derived.Test.YtolohbgfhledoaaRtTake
import Derived.Test.YtolohbgfhledoaaGrBack
import Derived.Test.YtolohbgfhledoaaGrArgs
import Derived.Test.YtolohbgfhledoaaArgs2
namespace Go.Proofs.Ytolohbgfhledoaa
open Go.RowKit
set_option maxHeartbeats 3200000 in
set_option maxRecDepth 100000 in
theorem groundPacks_law {w : World} {p : Pk} (hp : p.ok) {A : Option Addr} {n c : Nat} {l : List UInt8} (hl : SlB w A n c l) :
    Calls Try.prog 3 #[p.val, .slice A n c] w fun e w' => e = .returned (.bool true) ∧ Below w.heap.size w w' := by
  have hnl := hl.2
  have hp0 := hp
  have hPK := packB_len p
  have hPL := plB_len p
  have HTP : Hid (mayP p = true → takeP (packB p ++ l) = (p, (packB p).length, 0)) := fun h => takeP_packB hp h l
  have HPR : Hid (packR p = if mayP p = true then (packB p, 0) else ([], 2)) := rfl
  obtain ⟨q, k, f, v⟩ := p
  have hb := (Below.refl w.heap.size w).alloc (Nat.le_refl _) (.cells #[.int .i64 q, .int .i64 k, .int .i64 f, .int .i64 v] 23)
  have b1 := Blk.new w 23 #[.int .i64 q, .int .i64 k, .int .i64 f, .int .i64 v]
  show Calls Try.prog _ #[.agg #[.int .i64 q, .int .i64 k, .int .i64 f, .int .i64 v], .slice A n c] w _
  go_enter Try.func3, Try.ntmps3
  go_upto_region 1 with fail
  generalize w.alloc (.cells #[.int .i64 q, .int .i64 k, .int .i64 f, .int .i64 v] 23) = w1 at hb b1 ⊢
  by_cases hn : n ≤ 300
  · have hn' : ¬ (300 : Int) < (n : Int) := by omega
    have p0 : w1.cell? ⟨w.heap.size, 0, none⟩ = some (.int .i64 q) := b1.cell 0
    have p1 : w1.cell? ⟨w.heap.size, 1, none⟩ = some (.int .i64 k) := b1.cell 1
    have p2 : w1.cell? ⟨w.heap.size, 2, none⟩ = some (.int .i64 f) := b1.cell 2
    have p3 : w1.cell? ⟨w.heap.size, 3, none⟩ = some (.int .i64 v) := b1.cell 3
    go_wp2_with fail
    refine (of_any (p := ⟨q, k, f, v⟩)).mono ?_
    rintro e w2 ⟨rfl, hb2⟩
    have hB2 := hb.trans (hb2.mono hb.size)
    have b2 := b1.keep hb2
    go_wp2_with fail
    refine (pack_any (p := ⟨q, k, f, v⟩) hp).mono ?_
    rintro e w3 ⟨v3, rfl, hown3, hb3⟩
    have hB3 := hB2.trans (hb3.mono hB2.size)
    have b3 := b2.keep hb3
    clear p0 p1 p2 p3
    have p0 : w3.cell? ⟨w.heap.size, 0, none⟩ = some (.int .i64 q) := b3.cell 0
    have p1 : w3.cell? ⟨w.heap.size, 1, none⟩ = some (.int .i64 k) := b3.cell 1
    have p2 : w3.cell? ⟨w.heap.size, 2, none⟩ = some (.int .i64 f) := b3.cell 2
    have p3 : w3.cell? ⟨w.heap.size, 3, none⟩ = some (.int .i64 v) := b3.cell 3
    go_wp2_with fail
    refine (packR_any (p := ⟨q, k, f, v⟩) hp).mono ?_
    rintro e w4 ⟨v4, rfl, hown4, hb4⟩
    have hB4 := hB3.trans (hb4.mono hB3.size)
    have b4 := b3.keep hb4
    have hown34 := own_below hown3 hb4
    go_wp2_with fail
    refine (take_any' (hl.keep hB4) (by omega)).mono ?_
    rintro e w5 ⟨rfl, hb5⟩
    have hB5 := hB4.trans (hb5.mono hB4.size)
    have b5 := b4.keep hb5
    have hown35 := own_below hown34 hb5
    have hown45 := own_below hown4 hb5
    obtain ⟨T, hT0⟩ : ∃ T, takeP l = T := ⟨_, rfl⟩
    rw [hT0]
    obtain ⟨⟨t0, t1, t2, t3⟩, tn, te⟩ := T
    simp only [Pk.val]
    have b9 := Blk.new w5 29 #[.int .i64 t0, .int .i64 t1, .int .i64 t2, .int .i64 t3]
    have hb6 := (Below.refl w5.heap.size w5).alloc (Nat.le_refl _) (.cells #[.int .i64 t0, .int .i64 t1, .int .i64 t2, .int .i64 t3] 29)
    have hgl : w.heap.size < w5.heap.size := b5.lt
    go_upto_region 6 with fail
    generalize w5.alloc (.cells #[.int .i64 t0, .int .i64 t1, .int .i64 t2, .int .i64 t3] 29) = w6 at b9 hb6 ⊢
    have hB6 := hB5.trans (hb6.mono hB5.size)
    have b6 := b5.keep hb6
    have hown36 := own_below hown35 hb6
    have hown46 := own_below hown45 hb6
    generalize w5.heap.size = g9 at b9 hgl ⊢
    go_wp2_with fail
    refine (takeR_any (hl.keep hB6) (by omega)).mono ?_
    rintro e w7 ⟨rfl, hb7⟩
    simp only [hT0, Pk.val]
    have b12 := Blk.new w7 23 #[.int .i64 t0, .int .i64 t1, .int .i64 t2, .int .i64 t3]
    have hb8 := (Below.refl w7.heap.size w7).alloc (Nat.le_refl _) (.cells #[.int .i64 t0, .int .i64 t1, .int .i64 t2, .int .i64 t3] 23)
    have hz7 := hb7.size
    have hg9l := b9.lt
    have hg12 : g9 < w7.heap.size := by omega
    go_upto_region 7 with fail
    generalize w7.alloc (.cells #[.int .i64 t0, .int .i64 t1, .int .i64 t2, .int .i64 t3] 23) = w8 at b12 hb8 ⊢
    have hb68 := hb7.trans (hb8.mono hb7.size)
    have hB8 := hB6.trans (hb68.mono hB6.size)
    have b8 := b6.keep hb68
    have b98 := b9.keep hb68
    have hown38 := own_below hown36 hb68
    have hown48 := own_below hown46 hb68
    generalize w7.heap.size = g12 at b12 hg12 ⊢
    have hz28 : w2.heap.size ≤ w8.heap.size := by
      have s3 := hb3.size; have s4 := hb4.size; have s5 := hb5.size; have s6 := hb6.size; have s7 := hb68.size
      omega
    have hz12 : w.heap.size < w2.heap.size := b2.lt
    clear hb7 hb8 hb6 hb5 hb4 hb3 hb2 hb b1 b2 b3 b4 b5 b6 b9 hown3 hown4 hown34 hown35 hown36 hown45 hown46 hB6 hB5 hB4 p0 p1 p2 p3 hg9l hz7 hb68
    clear w7 w6 w5 w4
    obtain ⟨A3, c3, rfl, hs3, -⟩ := SlB.of_own hown38
    obtain ⟨A4, c4, rfl, hs4, -⟩ := SlB.of_own hown48
    have hcv3 : ∀ y, (convert 24 9 (.slice A3 (packR ⟨q, k, f, v⟩).1.length c3)).run Try.prog (graft (fun _ => False) w8 y) = .ok (.string ⟨(packR ⟨q, k, f, v⟩).1.toArray⟩) (graft (fun _ => False) w8 y) := fun y =>
      bytes_str (SlB.fr (S := fun _ => False) hs3 (graft_fr _ _ _) (fun _ _ _ _ h => h))
    have hcv4 : ∀ y, (convert 24 9 (.slice A4 (packR ⟨q, k, f, v⟩).1.length c4)).run Try.prog (graft (fun _ => False) w8 y) = .ok (.string ⟨(packR ⟨q, k, f, v⟩).1.toArray⟩) (graft (fun _ => False) w8 y) := fun y =>
      bytes_str (SlB.fr (S := fun _ => False) hs4 (graft_fr _ _ _) (fun _ _ _ _ h => h))
    have x0 : w8.cell? ⟨g9, 0, none⟩ = some (.int .i64 t0) := b98.cell 0
    have x1 : w8.cell? ⟨g9, 1, none⟩ = some (.int .i64 t1) := b98.cell 1
    have x2 : w8.cell? ⟨g9, 2, none⟩ = some (.int .i64 t2) := b98.cell 2
    have x3 : w8.cell? ⟨g9, 3, none⟩ = some (.int .i64 t3) := b98.cell 3
    have y0 : w8.cell? ⟨g12, 0, none⟩ = some (.int .i64 t0) := b12.cell 0
    have y1 : w8.cell? ⟨g12, 1, none⟩ = some (.int .i64 t1) := b12.cell 1
    have y2 : w8.cell? ⟨g12, 2, none⟩ = some (.int .i64 t2) := b12.cell 2
    have y3 : w8.cell? ⟨g12, 3, none⟩ = some (.int .i64 t3) := b12.cell 3
    have hl9 := b98.lt
    have hl12 := b12.lt
    refine wp_region_fen (fun _ => False) [(12, 0)] (by kernel_rfl) (by kernel_rfl) ?_
    simp only [wpSegsF, List.take, List.drop]
    repeat (go_big_quiet_step (fail))
    refine wpQuiet_nil (wpHeadF_want rfl (fun K' hK' => ?_))
    go_wp2_with fail
    refine (lawBack_any (p := ⟨t0, t1, t2, t3⟩)).mono ?_
    rintro e w9 ⟨rfl, hb9⟩
    replace hb9 : Below w8.heap.size w8 w9 := (Below.drew (Below.refl _ w8)).trans hb9
    refine hK' _ _ rfl (fr_graft (Fr.of_below hb9 _)) ?_
    clear hK' K'
    simp only [wpSegsF, Pk.val]
    repeat (go_big_quiet_step (fail))
    refine wpQuiet_nil ?_
    have hB9 := hB8.trans (hb9.mono hB8.size)
    clear hcv3 hcv4 x0 x1 x2 x3 y0 y1 y2 y3
    cases hm : mayP ⟨q, k, f, v⟩ with
    | false =>
      have HR : Hid (packR ⟨q, k, f, v⟩ = ([], 2)) := by unfold Hid; rw [HPR.out, if_neg (by rw [hm]; exact Bool.false_ne_true)]
      rw [HR.out]
      go_wp2_with fail
      refine (works_any _).mono ?_
      rintro e w10 ⟨rfl, hb10⟩
      go_wp2_with fail
      go_ret
      exact ⟨rfl, hB9.trans (hb10.mono hB9.size)⟩
    | true =>
      have HR : Hid (packR ⟨q, k, f, v⟩ = (packB ⟨q, k, f, v⟩, 0)) := by unfold Hid; rw [HPR.out, if_pos hm]
      have HT := Lib.hid (HTP.out hm)
      clear HPR HTP hm
      rw [HR.out]
      rw [HR.out] at hown38 hs3
      simp only at hown38 hs3
      have hown39 := own_below hown38 hb9
      have b9 := b8.keep hb9
      clear hown38 hown48 hs3 hs4 b98 b12 b8 hB8 hl9 hl12 HR hB2 hB3
      generalize packB ⟨q, k, f, v⟩ = X at hPK HT hown39 ⊢
      have hXl : X.length ≤ 49 := by omega
      clear hPK hPL
      have hz9 := hb9.size
      have hl9 := hl.keep hB9
      go_wp2_with (at_builtin; refine wpList_appB0 w9 (by rfl) _ _ (by rfl) w2.heap.size _ _ X (by rfl) hown39 A n c l hl9 (by rfl) (by omega) (by omega) ?_; intro v10 w10 hown10 hf10)
      obtain ⟨A10, c10, rfl, hs10, -⟩ := SlB.of_own hown10
      have F10 := hf10.mono (S' := fun k => w2.heap.size ≤ k) (fun k _ h => own_le hown39 k h)
      have b10 := b9.fr F10 (by omega)
      have hB10 := hB9.trans (F10.below (B := w.heap.size) (fun k hk h => by have h : w2.heap.size ≤ k := h; omega) (by omega))
      refine (take_any' hs10 (by omega)).mono ?_
      rintro e w11 ⟨rfl, hb11⟩
      rw [HT.out]
      have b11 := b10.keep hb11
      have hB11 := hB10.trans (hb11.mono hB10.size)
      simp only [Pk.val]
      have b15 := Blk.new w11 29 #[.int .i64 q, .int .i64 k, .int .i64 f, .int .i64 v]
      have hb12 := (Below.refl w11.heap.size w11).alloc (Nat.le_refl _) (.cells #[.int .i64 q, .int .i64 k, .int .i64 f, .int .i64 v] 29)
      clear hown10 hs10 hf10 F10 b9 b10 hB10 hb11 hown39 hl9 hB9 hb9 HT
      go_upto_region 12 with fail
      generalize w11.alloc (.cells #[.int .i64 q, .int .i64 k, .int .i64 f, .int .i64 v] 29) = w12 at b15 hb12 ⊢
      have b12 := b11.keep hb12
      have hB12 := hB11.trans (hb12.mono hB11.size)
      generalize w11.heap.size = g15 at b15 ⊢
      clear hb12 b11 hB11
      have x0 : w12.cell? ⟨g15, 0, none⟩ = some (.int .i64 q) := b15.cell 0
      have x1 : w12.cell? ⟨g15, 1, none⟩ = some (.int .i64 k) := b15.cell 1
      have x2 : w12.cell? ⟨g15, 2, none⟩ = some (.int .i64 f) := b15.cell 2
      have x3 : w12.cell? ⟨g15, 3, none⟩ = some (.int .i64 v) := b15.cell 3
      have y0 : w12.cell? ⟨w.heap.size, 0, none⟩ = some (.int .i64 q) := b12.cell 0
      have y1 : w12.cell? ⟨w.heap.size, 1, none⟩ = some (.int .i64 k) := b12.cell 1
      have y2 : w12.cell? ⟨w.heap.size, 2, none⟩ = some (.int .i64 f) := b12.cell 2
      have y3 : w12.cell? ⟨w.heap.size, 3, none⟩ = some (.int .i64 v) := b12.cell 3
      have hl15 := b15.lt
      have hl12 := b12.lt
      refine wp_region_fen (fun _ => False) [(1, 0), (13, 0)] (by kernel_rfl) (by kernel_rfl) ?_
      simp only [wpSegsF, List.take, List.drop]
      repeat (go_big_quiet_step (fail))
      refine wpQuiet_nil (wpHeadF_want rfl (fun K' hK' => ?_))
      go_wp2_with fail
      refine (lawBack_any (p := ⟨q, k, f, v⟩)).mono ?_
      rintro e w13 ⟨rfl, hb13⟩
      replace hb13 : Below w12.heap.size w12 w13 := (Below.drew (Below.refl _ w12)).trans hb13
      refine hK' _ _ rfl (fr_graft (Fr.of_below hb13 _)) ?_
      clear hK' K'
      simp only [List.take, List.drop, Pk.val]
      repeat (go_big_quiet_step (fail))
      refine wpQuiet_nil (wpHeadF_want rfl (fun K' hK' => ?_))
      go_wp2_with fail
      refine (works_any _).mono ?_
      rintro e w14 ⟨rfl, hb14⟩
      have hb1314 := hb13.trans (hb14.mono hb13.size)
      refine hK' _ _ rfl (fr_graft (Fr.of_below hb1314 _)) ?_
      clear hK' K'
      try simp only [wpSegsF]
      repeat (go_big_quiet_step (fail))
      refine wpQuiet_nil ?_
      go_wp2_with fail
      go_ret
      exact ⟨rfl, hB12.trans (hb1314.mono hB12.size)⟩
  · have hn' : (300 : Int) < (n : Int) := by omega
    go_wp2_with fail
    refine (works_any _).mono ?_
    rintro e w2 ⟨rfl, hb2⟩
    go_wp2_with fail
    go_ret
    exact ⟨rfl, hb.trans (hb2.mono hb.size)⟩
end Go.Proofs.Ytolohbgfhledoaa
