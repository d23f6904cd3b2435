/- The walks of package ground: packets' bytes. -/
import Derived.Test.YtolohbgfhledoaaEvInts
import Derived.Test.YtolohbgfhledoaaRdInt
import Derived.Test.YtolohbgfhledoaaGrSpec
import Derived.Test.YtolohbgfhledoaaDigWalks
namespace Go.Proofs.Ytolohbgfhledoaa
open Go.RowKit
theorem may_any {w : World} {p : Pk} : Calls Try.prog 24 #[p.val] w fun e w' => e = .returned (.bool (mayP p)) ∧ Below w.heap.size w w' := by
  obtain ⟨q, k, f, v⟩ := p
  have hb := (Below.refl w.heap.size w).alloc (Nat.le_refl _) (.cells #[.int .i64 q, .int .i64 k, .int .i64 f, .int .i64 v] 29)
  show Calls Try.prog _ #[.agg #[.int .i64 q, .int .i64 k, .int .i64 f, .int .i64 v]] w _
  by_cases h1 : 0 ≤ q
  · by_cases h2 : q ≤ 1000000
    · by_cases h3 : 0 ≤ f
      · by_cases h4 : f ≤ 1000000
        · by_cases h5 : 0 ≤ k
          · by_cases h6 : k < 3
            · have HM : Hid (mayP ⟨q, k, f, v⟩ = true) := mayP_iff.2 ⟨⟨h1, h2⟩, ⟨h3, h4⟩, h5, h6⟩
              go_enter Try.func24, Try.ntmps24
              go_wp2_with fail
              go_ret
              exact ⟨by rw [HM.out]; rfl, hb⟩
            · have HM : Hid (mayP ⟨q, k, f, v⟩ = false) := mayP_no (by simp only; omega)
              have d : decide (k < 3) = false := by simpa using h6
              clear h6
              go_enter Try.func24, Try.ntmps24
              go_wp2_with fail
              go_ret
              exact ⟨by rw [HM.out]; rfl, hb⟩
          · have HM : Hid (mayP ⟨q, k, f, v⟩ = false) := mayP_no (by simp only; omega)
            have d : decide (0 ≤ k) = false := by simpa using h5
            clear h5
            go_enter Try.func24, Try.ntmps24
            go_wp2_with fail
            go_ret
            exact ⟨by rw [HM.out]; rfl, hb⟩
        · have HM : Hid (mayP ⟨q, k, f, v⟩ = false) := mayP_no (by simp only; omega)
          have d : decide (f ≤ 1000000) = false := by simpa using h4
          clear h4
          go_enter Try.func24, Try.ntmps24
          go_wp2_with fail
          go_ret
          exact ⟨by rw [HM.out]; rfl, hb⟩
      · have HM : Hid (mayP ⟨q, k, f, v⟩ = false) := mayP_no (by simp only; omega)
        have d : decide (0 ≤ f) = false := by simpa using h3
        clear h3
        go_enter Try.func24, Try.ntmps24
        go_wp2_with fail
        go_ret
        exact ⟨by rw [HM.out]; rfl, hb⟩
    · have HM : Hid (mayP ⟨q, k, f, v⟩ = false) := mayP_no (by simp only; omega)
      have d : decide (q ≤ 1000000) = false := by simpa using h2
      clear h2
      go_enter Try.func24, Try.ntmps24
      go_wp2_with fail
      go_ret
      exact ⟨by rw [HM.out]; rfl, hb⟩
  · have HM : Hid (mayP ⟨q, k, f, v⟩ = false) := mayP_no (by simp only; omega)
    have d : decide (0 ≤ q) = false := by simpa using h1
    clear h1
    go_enter Try.func24, Try.ntmps24
    go_wp2_with fail
    go_ret
    exact ⟨by rw [HM.out]; rfl, hb⟩
theorem low_bv {x : Nat} (hx : x < 4294967296) : (lowB x).map bv = [.int .u8 ((x : Int) % 256), .int .u8 ((x : Int) / 256 % 256), .int .u8 ((x : Int) / 65536 % 256), .int .u8 ((x : Int) / 16777216)] := by
  have h : ∀ y : Nat, bv (ob (y % 256)) = Value.int .u8 ((y : Int) % 256) := fun y => by
    unfold bv
    rw [ob_toNat (Nat.mod_lt _ (by decide))]
    simp
  unfold lowB
  simp only [List.map_cons, List.map_nil, h]
  have e : ((x / 16777216 : Nat) : Int) % 256 = (x : Int) / 16777216 := by omega
  rw [e]
  simp
theorem low_any {w : World} {x : Nat} (hx : x < 4294967296) :
    Calls Try.prog 26 #[.int .u32 (x : Int)] w fun e w' => ∃ A c, e = .returned (.slice A 4 c) ∧ SlB w' A 4 c (lowB x) ∧ (∀ b o, A = some ⟨b, o, none⟩ → w.heap.size ≤ b) ∧ Below w.heap.size w w' := by
  have hb := Blk.new w 5 #[.int .u8 ((x : Int) % 256), .int .u8 ((x : Int) / 256 % 256), .int .u8 ((x : Int) / 65536 % 256), .int .u8 ((x : Int) / 16777216)]
  have hs := SlB.of_blk hb (lowB x) (low_bv hx).symm (by rw [lowB_len]; decide)
  go_enter Try.func26, Try.ntmps26
  go_wp2_with fail
  go_ret
  exact ⟨_, _, rfl, hs, fun b o h => by cases h; exact Nat.le_refl _, (Below.refl _ _).alloc (Nat.le_refl _) _⟩
theorem own_lit1 (w : World) (x : UInt8) : (w.alloc (.cells #[bv x] 5)).ownsRow w.heap.size 5 1 (.slice (some ⟨w.heap.size, 0, none⟩) 1 1) 1 ([x].map bv) :=
  ⟨by simp, .inr ⟨w.heap.size, 1, #[bv x], rfl, Nat.le_refl _, heap_alloc_new w _, Nat.le_refl _, by unfold maxLen; omega, by simp, by simp⟩⟩
set_option maxRecDepth 100000 in
theorem plain_any {w : World} {p : Pk} (hp : p.ok) :
    Calls Try.prog 25 #[p.val] w fun e w' => ∃ v, e = .returned v ∧ w'.ownsRow w.heap.size 5 1 v (plB p).length ((plB p).map bv) ∧ Below w.heap.size w w' := by
  obtain ⟨a, b, c, d⟩ := p
  obtain ⟨ha, hb, hc, hd⟩ := hp
  simp only at ha hb hc hd
  have la := vint_len a; have lb := vint_len b; have lc := vint_len c; have ld := vint_len d
  have HB : Hid (plB ⟨a, b, c, d⟩ = 165 :: (vint a ++ vint b ++ vint c ++ vint d)) := rfl
  show Calls Try.prog _ #[.agg #[.int .i64 a, .int .i64 b, .int .i64 c, .int .i64 d]] w _
  have hw0 := Wrt.new (w.alloc (.cells #[.int .i64 a, .int .i64 b, .int .i64 c, .int .i64 d] 29))
  have hb0 := ((Below.refl w.heap.size w).alloc (Nat.le_refl _) (.cells #[.int .i64 a, .int .i64 b, .int .i64 c, .int .i64 d] 29)).alloc (by simp) (.cells #[.slice none 0 0] 85)
  rw [World.size_alloc] at hw0
  go_enter Try.func25, Try.ntmps25
  go_wp2_with fail
  generalize (w.alloc (.cells #[.int .i64 a, .int .i64 b, .int .i64 c, .int .i64 d] 29)).alloc (.cells #[.slice none 0 0] 85) = w0 at hw0 hb0 ⊢
  have fr0 := Fr.refl (fun k => k = w.heap.size + 1 ∨ w.heap.size + 1 + 1 ≤ k) w0
  have hz0 := hb0.size
  have ix0 : ∀ w, (Instr.index 86 (.agg #[.int .i64 a, .int .i64 b, .int .i64 c, .int .i64 d]) (.int .i64 0)).run Try.prog w = .ok (.int .i64 a) w := fun w => rfl
  have ix1 : ∀ w, (Instr.index 86 (.agg #[.int .i64 a, .int .i64 b, .int .i64 c, .int .i64 d]) (.int .i64 1)).run Try.prog w = .ok (.int .i64 b) w := fun w => rfl
  have ix2 : ∀ w, (Instr.index 86 (.agg #[.int .i64 a, .int .i64 b, .int .i64 c, .int .i64 d]) (.int .i64 2)).run Try.prog w = .ok (.int .i64 c) w := fun w => rfl
  have ix3 : ∀ w, (Instr.index 86 (.agg #[.int .i64 a, .int .i64 b, .int .i64 c, .int .i64 d]) (.int .i64 3)).run Try.prog w = .ok (.int .i64 d) w := fun w => rfl
  refine wp_loop_rounds 5 ?_
  rw [rounds_succ]
  go_wp2_with fail
  refine (writeInt_any hw0 (by simp) ha).mono ?_
  rintro ee w1 ⟨rfl, hw1, fx1⟩
  have fr1 := fr0.trans fx1
  go_wp2_with fail
  rw [rounds_succ]
  go_wp2_with fail
  refine (writeInt_any hw1 (by simp; omega) hb).mono ?_
  rintro ee w2 ⟨rfl, hw2, fx2⟩
  have fr2 := fr1.trans fx2
  go_wp2_with fail
  rw [rounds_succ]
  go_wp2_with fail
  refine (writeInt_any hw2 (by simp; omega) hc).mono ?_
  rintro ee w3 ⟨rfl, hw3, fx3⟩
  have fr3 := fr2.trans fx3
  go_wp2_with fail
  rw [rounds_succ]
  go_wp2_with fail
  refine (writeInt_any hw3 (by simp; omega) hd).mono ?_
  rintro ee w4 ⟨rfl, hw4, fx4⟩
  have fr4 := fr3.trans fx4
  have hbw : Below w.heap.size w w4 := hb0.trans (fr4.below (fun k hk h => by omega) hz0)
  have hown5 := own_lit1 w4 165
  have hbl := (Below.refl w4.heap.size w4).alloc (Nat.le_refl _) (.cells #[bv 165] 5)
  have hw5 := hw4.keep hbl
  go_wp2_with fail
  rw [rounds_succ]
  go_wp2_with fail
  rw [show (Value.int .u8 165) = bv 165 from rfl]
  generalize w4.alloc (.cells #[bv 165] 5) = w5 at hown5 hbl hw5 ⊢
  refine (writerBytes_any hw5 (by simp; omega)).mono ?_
  rintro ee w7 ⟨v7, rfl, hown7, hb7⟩
  obtain ⟨A7, c7, rfl, hs7, -⟩ := SlB.of_own hown7
  have hown5' := own_below hown5 hb7
  have hq7 : w4.heap.size ≤ w7.heap.size := Nat.le_trans hbl.size hb7.size
  have hlen : ([] ++ vint a ++ vint b ++ vint c ++ vint d).length ≤ 100 := by simp only [List.length_append, List.length_nil]; omega
  have hlp : 0 < ([] ++ vint a ++ vint b ++ vint c ++ vint d).length := by simp only [List.length_append, List.length_nil]; omega
  have HX : Hid (plB ⟨a, b, c, d⟩ = [165] ++ ([] ++ vint a ++ vint b ++ vint c ++ vint d)) := by unfold Hid; rw [HB.out]; simp
  clear hw0 hw1 hw2 hw3 hw4 hw5 hown7
  generalize [] ++ vint a ++ vint b ++ vint c ++ vint d = X at hs7 hlen hlp HX ⊢
  go_wp2_with (at_builtin; refine wpList_appB w7 (by rfl) _ _ (by rfl) w4.heap.size _ 1 [165] (by rfl) hown5' A7 _ c7 _ hs7 hlp (by rfl) (by omega) hq7 ?_; intro v8 w8 hown8 hf8 hat8)
  go_ret
  exact ⟨v8, rfl, by rw [HX.out, List.length_append]; exact own_mono hown8 hbw.size, (hbw.trans ((hbl.trans (hb7.mono hbl.size)).mono hbw.size)).trans (hf8.below (fun k hk h => own_ne hown5' (show k < w4.heap.size by have := hbw.size; omega) h.symm) (by have := hbw.size; omega))⟩
end Go.Proofs.Ytolohbgfhledoaa
