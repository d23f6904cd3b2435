/- The document's bytes of a packet: Bytes and Pack walked. -/
import Derived.Test.YtolohbgfhledoaaGrRef
import Derived.Test.YtolohbgfhledoaaGrTake
import Derived.Test.YtolohbgfhledoaaRtInt
namespace Go.Proofs.Ytolohbgfhledoaa
open Go.RowKit
theorem own_le {w : World} {base : Nat} {e : TypeId} {sz : Nat} {v : Value} {n : Nat} {xs : List Value} (h : w.ownsRow base e sz v n xs) (k : Nat) (hk : v.ownBlock = some k) : base ≤ k := by
  rcases Nat.lt_or_ge k base with hlt | hge
  · exact absurd hk (own_ne h hlt).symm
  · exact hge
set_option maxRecDepth 100000 in
set_option maxHeartbeats 1600000 in
theorem bytesR_any {w : World} {p : Pk} (hp : p.ok) :
    Calls Try.prog 29 #[p.val] w fun e w' => ∃ v, e = .returned v ∧ w'.ownsRow w.heap.size 5 1 v (packB p).length ((packB p).map bv) ∧ Below w.heap.size w w' := by
  obtain ⟨a, b, c, d⟩ := p
  obtain ⟨ha, hb, hc, hd⟩ := hp
  simp only at ha hb hc hd
  have la := vint_len a; have lb := vint_len b; have lc := vint_len c; have ld := vint_len d
  have HB : Hid (packB ⟨a, b, c, d⟩ = ([165] ++ vint a ++ vint b ++ vint c ++ vint d) ++ lowB (crc ([165] ++ vint a ++ vint b ++ vint c ++ vint d))) := by
    unfold Hid packB plB
    simp
  show Calls Try.prog _ #[.agg #[.int .i64 a, .int .i64 b, .int .i64 c, .int .i64 d]] w _
  have b0 := Blk.new w 23 #[.int .i64 a, .int .i64 b, .int .i64 c, .int .i64 d]
  have hb0 := (Below.refl w.heap.size w).alloc (Nat.le_refl _) (.cells #[.int .i64 a, .int .i64 b, .int .i64 c, .int .i64 d] 23)
  have hsz : (w.alloc (.cells #[.int .i64 a, .int .i64 b, .int .i64 c, .int .i64 d] 23)).heap.size = w.heap.size + 1 := by unfold World.alloc; exact Array.size_push _
  go_enter Try.func29, Try.ntmps29
  go_upto_region 1 with fail
  generalize w.alloc (.cells #[.int .i64 a, .int .i64 b, .int .i64 c, .int .i64 d] 23) = w0 at b0 hb0 hsz ⊢
  have hbl := (Below.refl w0.heap.size w0).alloc (Nat.le_refl _) (.cells #[bv 165] 5)
  have b1 := b0.keep hbl
  have hB1 := hb0.trans (hbl.mono hb0.size)
  have hown1 := own_lit1 w0 165
  have hsz1 : (w0.alloc (.cells #[bv 165] 5)).heap.size = w0.heap.size + 1 := by unfold World.alloc; exact Array.size_push _
  rw [hsz] at hown1 hsz1
  go_upto_region 2 with fail
  rw [show (Value.int .u8 165) = bv 165 from rfl]
  generalize w0.alloc (.cells #[bv 165] 5) = w1 at b1 hown1 hB1 hsz1 ⊢
  clear hbl hsz hb0 b0
  have fp0 : ∀ w', Fr (fun k => w.heap.size + 1 ≤ k) w1 w' → w'.cell? ⟨w.heap.size, 0, none⟩ = some (.int .i64 a) := fun w' h => (b1.fr h (by omega)).cell 0
  have fp1 : ∀ w', Fr (fun k => w.heap.size + 1 ≤ k) w1 w' → w'.cell? ⟨w.heap.size, 1, none⟩ = some (.int .i64 b) := fun w' h => (b1.fr h (by omega)).cell 1
  have fp2 : ∀ w', Fr (fun k => w.heap.size + 1 ≤ k) w1 w' → w'.cell? ⟨w.heap.size, 2, none⟩ = some (.int .i64 c) := fun w' h => (b1.fr h (by omega)).cell 2
  have fp3 : ∀ w', Fr (fun k => w.heap.size + 1 ≤ k) w1 w' → w'.cell? ⟨w.heap.size, 3, none⟩ = some (.int .i64 d) := fun w' h => (b1.fr h (by omega)).cell 3
  clear b1
  have f1 := Fr.refl (fun k => w.heap.size + 1 ≤ k) w1
  have q0 := fp0 w1 f1
  go_wp2_with fail
  obtain ⟨X1, hX1⟩ : ∃ X : List UInt8, X = [165] := ⟨_, rfl⟩
  replace hown1 : w1.ownsRow (w.heap.size + 1) 5 1 (.slice (some ⟨w.heap.size + 1, 0, none⟩) 1 1) X1.length (X1.map bv) := by rw [hX1]; exact hown1
  have hl1 : X1.length ≤ 1 := by rw [hX1]; exact Nat.le_refl _
  refine (refInt_any ha).mono ?_
  rintro ee w2 ⟨v2, rfl, hown2, hb2⟩
  obtain ⟨A2, c2, rfl, hs2, -⟩ := SlB.of_own hown2
  have hz2 := hb2.size
  have hz1 := f1.size
  go_wp2_with (at_builtin; refine wpList_appB w2 (by rfl) _ _ (by rfl) (w.heap.size + 1) _ _ X1 (by rfl) (own_below hown1 hb2) A2 _ c2 _ hs2 la.1 (by rfl) (by omega) (by omega) ?_; intro v3 w3 hown3 hf3 hat3; have f3 := (f1.trans (Fr.of_below hb2 _)).trans (hf3.mono (fun k _ h => own_le (own_below hown1 hb2) k h)); have q1 := fp1 w3 f3)
  rw [← List.length_append] at hown3
  obtain ⟨X3, hX3⟩ : ∃ X : List UInt8, X = X1 ++ vint a := ⟨_, rfl⟩
  rw [← hX3] at hown3
  have hL3 : X3.length = X1.length + (vint a).length := by rw [hX3, List.length_append]
  refine (refInt_any hb).mono ?_
  rintro ee w4 ⟨v4, rfl, hown4, hb4⟩
  obtain ⟨A4, c4, rfl, hs4, -⟩ := SlB.of_own hown4
  have hz4 := hb4.size
  have hz3 := f3.size
  have hl3 : X3.length ≤ 12 := by omega
  go_wp2_with (at_builtin; refine wpList_appB w4 (by rfl) _ _ (by rfl) (w.heap.size + 1) _ _ X3 (by rfl) (own_below hown3 hb4) A4 _ c4 _ hs4 lb.1 (by rfl) (by omega) (by omega) ?_; intro v5 w5 hown5 hf5 hat5; have f5 := (f3.trans (Fr.of_below hb4 _)).trans (hf5.mono (fun k _ h => own_le (own_below hown3 hb4) k h)); have q2 := fp2 w5 f5)
  rw [← List.length_append] at hown5
  obtain ⟨X5, hX5⟩ : ∃ X : List UInt8, X = X3 ++ vint b := ⟨_, rfl⟩
  rw [← hX5] at hown5
  have hL5 : X5.length = X3.length + (vint b).length := by rw [hX5, List.length_append]
  refine (refInt_any hc).mono ?_
  rintro ee w6 ⟨v6, rfl, hown6, hb6⟩
  obtain ⟨A6, c6, rfl, hs6, -⟩ := SlB.of_own hown6
  have hz6 := hb6.size
  have hz5 := f5.size
  have hl5 : X5.length ≤ 23 := by omega
  go_wp2_with (at_builtin; refine wpList_appB w6 (by rfl) _ _ (by rfl) (w.heap.size + 1) _ _ X5 (by rfl) (own_below hown5 hb6) A6 _ c6 _ hs6 lc.1 (by rfl) (by omega) (by omega) ?_; intro v7 w7 hown7 hf7 hat7; have f7 := (f5.trans (Fr.of_below hb6 _)).trans (hf7.mono (fun k _ h => own_le (own_below hown5 hb6) k h)); have q3 := fp3 w7 f7)
  rw [← List.length_append] at hown7
  obtain ⟨X7, hX7⟩ : ∃ X : List UInt8, X = X5 ++ vint c := ⟨_, rfl⟩
  rw [← hX7] at hown7
  have hL7 : X7.length = X5.length + (vint c).length := by rw [hX7, List.length_append]
  refine (refInt_any hd).mono ?_
  rintro ee w8 ⟨v8, rfl, hown8, hb8⟩
  obtain ⟨A8, c8, rfl, hs8, -⟩ := SlB.of_own hown8
  have hz8 := hb8.size
  have hz7 := f7.size
  have hl7 : X7.length ≤ 34 := by omega
  go_wp2_with (at_builtin; refine wpList_appB w8 (by rfl) _ _ (by rfl) (w.heap.size + 1) _ _ X7 (by rfl) (own_below hown7 hb8) A8 _ c8 _ hs8 ld.1 (by rfl) (by omega) (by omega) ?_; intro v9 w9 hown9 hf9 hat9; have f9 := (f7.trans (Fr.of_below hb8 _)).trans (hf9.mono (fun k _ h => own_le (own_below hown7 hb8) k h)))
  rw [← List.length_append] at hown9
  obtain ⟨X9, hX9⟩ : ∃ X : List UInt8, X = X7 ++ vint d := ⟨_, rfl⟩
  rw [← hX9] at hown9
  have hL9 : X9.length = X7.length + (vint d).length := by rw [hX9, List.length_append]
  have hl9 : X9.length ≤ 45 := by omega
  obtain ⟨A9, c9, rfl, hs9, -⟩ := SlB.of_own hown9
  refine (refSum_any hs9).mono ?_
  rintro ee w10 ⟨rfl, rfl⟩
  have hx := crc_lt X9
  have HX : Hid (packB ⟨a, b, c, d⟩ = X9 ++ lowB (crc X9)) := by unfold Hid; rw [HB.out, hX9, hX7, hX5, hX3, hX1]
  generalize crc X9 = x at hx HX ⊢
  have hz9 := f9.size
  have hbl9 := (Below.refl w9.heap.size w9).alloc (Nat.le_refl _) (.cells #[.int .u8 ((x : Int) % 256), .int .u8 ((x : Int) / 256 % 256), .int .u8 ((x : Int) / 65536 % 256), .int .u8 ((x : Int) / 16777216)] 5)
  have hs10 := SlB.of_blk (Blk.new w9 5 #[.int .u8 ((x : Int) % 256), .int .u8 ((x : Int) / 256 % 256), .int .u8 ((x : Int) / 65536 % 256), .int .u8 ((x : Int) / 16777216)]) (lowB x) (low_bv hx).symm (by rw [lowB_len]; decide)
  have hl10 := lowB_len x
  rw [hl10] at hs10
  have hown10 := own_below hown9 hbl9
  have hz10 := hbl9.size
  clear hL3 hL5 hL7 hL9 hX3 hX5 hX7 hX9 hX1
  go_wp2_with (at_builtin; refine wpList_appB _ (by rfl) _ _ (by rfl) (w.heap.size + 1) _ _ X9 (by rfl) hown10 _ 4 4 (lowB x) hs10 (by decide) (by rfl) (by omega) (by omega) ?_; intro v11 w11 hown11 hf11 hat11)
  go_ret
  refine ⟨v11, rfl, ?_, ?_⟩
  · rw [HX.out, List.length_append, hl10]
    exact own_mono hown11 (by omega)
  · have F : Fr (fun k => w.heap.size + 1 ≤ k) w1 w11 := (f9.trans (Fr.of_below hbl9 _)).trans (hf11.mono (fun k _ h => own_le hown10 k h))
    exact hB1.trans (F.below (fun k hk h => by omega) (by omega))
set_option maxRecDepth 100000 in
theorem packR_any {w : World} {p : Pk} (hp : p.ok) :
    Calls Try.prog 11 #[p.val] w fun e w' => ∃ v, e = .returned (.tuple #[v, .int .i64 (packR p).2]) ∧ w'.ownsRow w.heap.size 5 1 v (packR p).1.length ((packR p).1.map bv) ∧ Below w.heap.size w w' := by
  have hp0 := hp
  obtain ⟨a, b, c, d⟩ := p
  have HP : Hid (packR ⟨a, b, c, d⟩ = if mayP ⟨a, b, c, d⟩ then (packB ⟨a, b, c, d⟩, 0) else ([], 2)) := rfl
  generalize packR ⟨a, b, c, d⟩ = R at HP ⊢
  show Calls Try.prog _ #[.agg #[.int .i64 a, .int .i64 b, .int .i64 c, .int .i64 d]] w _
  have b0 := Blk.new w 23 #[.int .i64 a, .int .i64 b, .int .i64 c, .int .i64 d]
  have hb0 := (Below.refl w.heap.size w).alloc (Nat.le_refl _) (.cells #[.int .i64 a, .int .i64 b, .int .i64 c, .int .i64 d] 23)
  go_enter Try.func11, Try.ntmps11
  go_upto_region 1 with fail
  generalize w.alloc (.cells #[.int .i64 a, .int .i64 b, .int .i64 c, .int .i64 d] 23) = w0 at b0 hb0 ⊢
  have p0 : w0.cell? ⟨w.heap.size, 0, none⟩ = some (.int .i64 a) := b0.cell 0
  have p1 : w0.cell? ⟨w.heap.size, 1, none⟩ = some (.int .i64 b) := b0.cell 1
  have p2 : w0.cell? ⟨w.heap.size, 2, none⟩ = some (.int .i64 c) := b0.cell 2
  have p3 : w0.cell? ⟨w.heap.size, 3, none⟩ = some (.int .i64 d) := b0.cell 3
  go_wp2_with fail
  refine (mayR_any (p := ⟨a, b, c, d⟩)).mono ?_
  rintro ee w2 ⟨rfl, hb2⟩
  have b2 := b0.keep hb2
  have hB2 := hb0.trans (hb2.mono hb0.size)
  clear p0 p1 p2 p3
  have p0 : w2.cell? ⟨w.heap.size, 0, none⟩ = some (.int .i64 a) := b2.cell 0
  have p1 : w2.cell? ⟨w.heap.size, 1, none⟩ = some (.int .i64 b) := b2.cell 1
  have p2 : w2.cell? ⟨w.heap.size, 2, none⟩ = some (.int .i64 c) := b2.cell 2
  have p3 : w2.cell? ⟨w.heap.size, 3, none⟩ = some (.int .i64 d) := b2.cell 3
  cases hm : mayP ⟨a, b, c, d⟩ with
  | false =>
    have HR : Hid (R = ([], 2)) := by unfold Hid; rw [HP.out, if_neg (by rw [hm]; exact Bool.false_ne_true)]
    clear HP hm
    go_wp2_with fail
    go_ret2
    rw [HR.out]
    refine ⟨_, rfl, ?_, hB2⟩
    exact World.ownsRow_nil _ _ _ _
  | true =>
    have HR : Hid (R = (packB ⟨a, b, c, d⟩, 0)) := by unfold Hid; rw [HP.out, if_pos hm]
    clear HP hm
    go_wp2_with fail
    refine (bytesR_any hp0).mono ?_
    rintro ee w3 ⟨v3, rfl, hown3, hb3⟩
    go_wp2_with fail
    go_ret2
    rw [HR.out]
    refine ⟨_, rfl, ?_, hB2.trans (hb3.mono hB2.size)⟩
    exact own_mono hown3 hB2.size
end Go.Proofs.Ytolohbgfhledoaa
