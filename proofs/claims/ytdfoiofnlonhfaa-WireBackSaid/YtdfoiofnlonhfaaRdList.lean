/- The walks of wire.List on numbers. -/
import Derived.Test.YtdfoiofnlonhfaaRdMore
namespace Go.Proofs.Ytdfoiofnlonhfaa
open Go.RowKit
theorem int_info : (Try.prog.info? 3).map (fun i => (i.zero, i.size, i.bytes)) = some (some (.int .i64 0), 1, 8) := by kernel_rfl
/-- reading a list of at most 'most' numbers -/
def gHead (most : Int) (s : RS) : RS := if (gInt s).1 < 0 ∨ most < (gInt s).1 then errS (gInt s).2 3 else (gInt s).2
def gList (most : Int) (s : RS) : List Int × RS :=
  if (gInts (gInt s).1.toNat (gHead most s)).2.e ≠ 0 then ([], (gInts (gInt s).1.toNat (gHead most s)).2) else gInts (gInt s).1.toNat (gHead most s)
theorem gInts_err {n : Nat} {s : RS} (h : s.e ≠ 0) : gInts n s = ([], s) := by
  cases n with
  | zero => rfl
  | succ n => rw [gInts, if_pos h]
theorem gInts_more {n : Nat} {s : RS} (h : s.e = 0) : gInts (n + 1) s = ((gInt s).1 :: (gInts n (gInt s).2).1, (gInts n (gInt s).2).2) := by
  rw [gInts, if_neg (by simpa using h)]
theorem gInts_len (n : Nat) (s : RS) : (gInts n s).1.length ≤ n := by
  induction n generalizing s with
  | zero => simp [gInts]
  | succ n ih =>
    by_cases h : s.e = 0
    · rw [gInts_more h]
      have := ih (gInt s).2
      simp only [List.length_cons]
      omega
    · rw [gInts_err h]; simp
theorem gList_rng (most : Int) (s : RS) : ∀ x ∈ (gList most s).1, i64 x := by
  have hg : ∀ n s, ∀ x ∈ (gInts n s).1, i64 x := by
    intro n
    induction n with
    | zero => intro s x hx; simp [gInts] at hx
    | succ n ih =>
      intro s x hx
      by_cases h : s.e = 0
      · rw [gInts_more h] at hx
        rcases List.mem_cons.1 hx with rfl | hx
        · exact gInt_rng s
        · exact ih _ x hx
      · rw [gInts_err h] at hx; simp at hx
  intro x hx
  unfold gList at hx
  split at hx
  · simp at hx
  · exact hg _ _ x hx
theorem getInt_any {w : World} {g B : Nat} {s : RS} (h : RdSt w g B s) :
    Calls Try.prog 18 #[.pointer (some ⟨g, 0, none⟩)] w fun x w' => x = .returned (.int .i64 (gInt s).1) ∧ RdSt w' g B (gInt s).2 ∧ Fr (fun k => k = g) w w' := by
  go_enter Try.func18, Try.ntmps18
  go_wp2_with fail
  refine (rdInt_any h).mono ?_
  rintro x w2 ⟨rfl, hr2, hf2⟩
  go_wp2_with fail
  go_ret
  exact ⟨rfl, hr2, hf2⟩
set_option maxRecDepth 100000 in
set_option maxHeartbeats 8000000 in
theorem list_any {w : World} {g B : Nat} {s : RS} (h : RdSt w g B s) {most : Int} (hm : most ≤ 100000) :
    Calls Try.prog 17 #[.pointer (some ⟨g, 0, none⟩), .int .i64 most, .func (.func 18) #[] #[]] w fun x w' => ∃ v, x = .returned v ∧ w'.ownsRow w.heap.size 3 1 v (gList most s).1.length ((gList most s).1.map (Value.int .i64)) ∧ RdSt w' g B (gList most s).2 ∧ Fr (fun k => k = g) w w' := by
  obtain ⟨i0, hi0, hz0, hz1, hz2⟩ := info_parts int_info
  have hBw : B ≤ w.heap.size := by obtain ⟨_, _, _, _, _, h3⟩ := h; exact h3.2.1
  have hgl : g < w.heap.size := by obtain ⟨_, _, _, h1, _, _⟩ := h; exact h1.lt
  have hrg := gInt_rng s
  have HL : Hid (gList most s = if (gInts (gInt s).1.toNat (gHead most s)).2.e ≠ 0 then ([], (gInts (gInt s).1.toNat (gHead most s)).2) else gInts (gInt s).1.toNat (gHead most s)) := rfl
  have HH : Hid (gHead most s = if (gInt s).1 < 0 ∨ most < (gInt s).1 then errS (gInt s).2 3 else (gInt s).2) := rfl
  go_enter Try.func17, Try.ntmps17
  go_wp2_with fail
  refine (rdInt_any h).mono ?_
  rintro x w1 ⟨rfl, hr1, hf1⟩
  generalize (gInt s).1 = n at hrg HL HH ⊢
  generalize (gInt s).2 = s1 at hr1 HH ⊢
  generalize gHead most s = s2 at HL HH
  have h3c : n < 0 ∨ (0 ≤ n ∧ most < n) ∨ (0 ≤ n ∧ n ≤ most) := by omega
  rcases h3c with hn0 | ⟨hn0, hn2⟩ | ⟨hn0, hn2⟩
  case' inl =>
    have hs2 := HH.out
    rw [if_pos (by omega)] at hs2
    go_wp2_with fail
    refine (fail_any hr1 3).mono ?_
    rintro x w2 ⟨rfl, hr2, hf2⟩
    rw [← hs2] at hr2
    replace hf2 := hf1.trans hf2
    have hbig : n.toNat ≤ 100000 ∨ s2.e ≠ 0 := .inr (by rw [hs2]; unfold errS; split <;> simp_all)
    clear hs2 HH hr1 hf1
    go_wp2_with fail
    clear hn0
  case' inr.inl =>
    have hn1 : decide (n < 0) = false := by simp; omega
    have hs2 := HH.out
    rw [if_pos (by omega)] at hs2
    go_wp2_with fail
    refine (fail_any hr1 3).mono ?_
    rintro x w2 ⟨rfl, hr2, hf2⟩
    rw [← hs2] at hr2
    replace hf2 := hf1.trans hf2
    have hbig : n.toNat ≤ 100000 ∨ s2.e ≠ 0 := .inr (by rw [hs2]; unfold errS; split <;> simp_all)
    clear hs2 HH hr1 hf1
    go_wp2_with fail
  case' inr.inr =>
    have hs2 := HH.out
    rw [if_neg (by omega)] at hs2
    subst hs2
    have hn1 : decide (n < 0) = false := by simp; omega
    have hn3 : decide (most < n) = false := by simp; omega
    have hbig : n.toNat ≤ 100000 ∨ s2.e ≠ 0 := .inl (by omega)
    generalize w1 = w2 at hr1 hf1 ⊢
    have hr2 := hr1
    have hf2 := hf1
    clear HH hr1 hf1
    go_wp2_with fail
  all_goals
    have hnn : i64 n := hrg
    generalize hN : n.toNat = N at HL hbig
    go_loopw [8, 9] (fun v i wr => ∃ (k : Nat) (dn : List Int) (sc : RS), (0 < k → (k : Int) ≤ n) ∧ i = .int .i64 k ∧ dn.length = k ∧ wr.ownsRow w.heap.size 3 1 v k (dn.map (Value.int .i64)) ∧ RdSt wr g B sc ∧ Fr (fun k => k = g) w wr ∧ (N ≤ 100000 ∨ sc.e ≠ 0) ∧ k ≤ 100000 ∧ Hid (gInts N s2 = (dn ++ (gInts (N - k) sc).1, (gInts (N - k) sc).2))) (fun _ i _ => N - (intOf i).toNat)
    case atStart => exact ⟨0, [], s2, by omega, rfl, rfl, World.ownsRow_nil _ _ _ _, hr2, hf2, hbig, by omega, by unfold Hid; simp⟩
    case round =>
      obtain ⟨k, dn, sc, hkn, rfl, hdl, hown, hr, hfw, hbg, hk5, HG⟩ := hrel
      have hsz := hfw.size
      have hr' := hr
      obtain ⟨Ar, nr, cr, k1, k2, k3⟩ := hr'
      have hgw := k1.lt
      have d1 : wr.cell? ⟨g, 1, none⟩ = some (.int .i64 sc.e) := k1.cell 1
      by_cases he : sc.e = 0
      · have he' : (sc.e == 0) = true := by simpa using he
        have he2 : (sc.e != 0) = false := by simpa using he
        have hN5 : N ≤ 100000 := by
          rcases hbg with h | h
          · exact h
          · exact absurd he h
        by_cases hkN : (k : Int) < n
        · have HM : Hid (gInts N s2 = ((dn ++ [(gInt sc).1]) ++ (gInts (N - (k + 1)) (gInt sc).2).1, (gInts (N - (k + 1)) (gInt sc).2).2)) := by
            unfold Hid
            rw [HG.out, show N - k = (N - (k + 1)) + 1 by omega, gInts_more he]
            simp
          clear he hbg HG
          go_wp2_with fail
          refine (getInt_any hr).mono ?_
          rintro x w3 ⟨rfl, hr3, hf3⟩
          have hownA := own_far hown hf3 (fun k hk => by omega)
          have hz3 := hf3.size
          have hx := gInt_rng sc
          generalize (gInt sc).1 = y at HM hx ⊢
          generalize (gInt sc).2 = s3 at hr3 HM
          go_wp2_with (at_builtin; refine wpList_app1 w3 (by rfl) _ _ 22 (by rfl) w.heap.size 3 i0 _ 1 8 Try.underlying22 hi0 hz0 hz1 hz2 rfl (by decide) (by decide) _ k _ (by rfl) hownA #[.int .i64 y] rfl (by simp [Value.oneCell']) (by rfl) (by omega) (by omega) ?_; intro v' w4 hown4 hf4 hat4)
          have hr4 : RdSt w4 g B s3 := hr3.fr hf4 (fun k hk => Nat.le_trans hBw (hownA.lt k hk).1)
          exact ⟨⟨k + 1, dn ++ [y], s3, by omega, by go_num, by simp [hdl], by rw [List.map_append]; exact hown4, hr4, (hfw.trans hf3).trans' (hf4.mono (S' := fun k => w.heap.size ≤ k) (fun k _ hk => (hownA.lt k hk).1)) (fun k hk h => by omega), .inl hN5, by omega, HM⟩, by simp [intOf]; omega⟩
        · have hfin : gList most s = (dn, sc) := by
            rw [HL.out, HG.out]
            have : N - k = 0 := by omega
            rw [this]
            simp [gInts, he]
          have HFIN := Lib.hid hfin
          have hkN' : ¬ (k : Int) < n := hkN
          clear hfin he hbg HG HL
          go_wp2_with fail
          go_ret
          exact ⟨_, rfl, by rw [HFIN.out]; simp only [hdl]; exact hown, by rw [HFIN.out]; exact hr, hfw⟩
      · have he' : (sc.e == 0) = false := by simpa using he
        have he2 : (sc.e != 0) = true := by simpa using he
        have hfin : gList most s = ([], sc) := by
          rw [HL.out, HG.out, gInts_err he]
          simp [he]
        have HFIN := Lib.hid hfin
        clear hfin he hbg HG HL
        by_cases hkN : (k : Int) < n
        all_goals
          go_wp2_with fail
          go_ret
          exact ⟨_, rfl, by rw [HFIN.out]; exact World.ownsRow_nil _ _ _ _, by rw [HFIN.out]; exact hr, hfw⟩
end Go.Proofs.Ytdfoiofnlonhfaa
