/- The law's done walked: an act on both memories. -/
import Derived.Test.YtpgglefimdllbaaMemLike
import Derived.Test.YtpgglefimdllbaaMemArgs
namespace Go.Proofs.Ytpgglefimdllbaa
open Go.RowKit
def stepB (Ss : List Sg) (Bs : List (List UInt8)) (x : Ac) : List (List UInt8) :=
  if x.d = 1 then (storeR Ss Bs x.a x.b).1 else if x.d = 3 then (storeR Ss Bs x.a (putB x.n)).1 else if x.d = 4 then Bs.map zl else Bs
theorem isSome_fdI (o : Option Nat) : o.isSome = decide (0 ≤ fdI o) := by
  cases o with
  | none => rfl
  | some k => simp [fdI]
set_option maxRecDepth 100000 in
set_option maxHeartbeats 8000000 in
theorem done_any {w : World} {g B : Nat} {A : Option Addr} {c : Nat} {PQ : List (Nat × Nat)} {r N : Nat} {Ss : List Sg} {Bs : List (List UInt8)} (hm : MemX w g B A c PQ Ss Bs) (hr : RefX w r N Ss Bs) (hN : MBd N g A PQ Ss.length) {x : Ac} (hx : x.ok w) (hxB : ∀ b o, 0 < x.k → x.A = some ⟨b, o, none⟩ → b < B) :
    Calls Try.prog 13 #[.pointer (some ⟨g, 0, none⟩), .pointer (some ⟨r, 0, none⟩), x.val] w fun e w' => e = .returned (.bool true) ∧ MemX w' g B A c PQ Ss (stepB Ss Bs x) ∧ RefX w' r N Ss (stepB Ss Bs x) ∧ Fr (fun j => QS PQ Ss.length j ∨ N ≤ j) w w' := by
  have HB : Hid (stepB Ss Bs x = if x.d = 1 then (storeR Ss Bs x.a x.b).1 else if x.d = 3 then (storeR Ss Bs x.a (putB x.n)).1 else if x.d = 4 then Bs.map zl else Bs) := rfl
  generalize stepB Ss Bs x = BS at HB ⊢
  have hNw : N ≤ w.heap.size := by obtain ⟨_, _, _, _, _, h1, _, _, _, h5, _⟩ := hr; have := h1.lt; omega
  have hQN := hN.qs
  have hQB := hm.le
  obtain ⟨d, a, n, D, k, dc, b⟩ := x
  obtain ⟨hd, ha, hn, hs⟩ := hx
  simp only at hd ha hn hs hxB HB
  have b1 := Blk.new w 41 #[.int .i64 d, .int .i64 a, .int .i64 n, .slice D k dc]
  have hb1 := (Below.refl w.heap.size w).alloc (Nat.le_refl _) (.cells #[.int .i64 d, .int .i64 a, .int .i64 n, .slice D k dc] 41)
  have hz1 := alloc_size w (.cells #[.int .i64 d, .int .i64 a, .int .i64 n, .slice D k dc] 41)
  show Calls Try.prog _ #[.pointer (some ⟨g, 0, none⟩), .pointer (some ⟨r, 0, none⟩), .agg #[.int .i64 d, .int .i64 a, .int .i64 n, .slice D k dc]] w _
  go_enter Try.func13, Try.ntmps13
  go_upto_region 1 with fail
  generalize w.alloc (.cells #[.int .i64 d, .int .i64 a, .int .i64 n, .slice D k dc] 41) = w1 at b1 hb1 hz1 ⊢
  have hm1 := hm.keep hb1
  have hr1 := hr.keep hb1
  have hs1 := hs.keep hb1
  have FB : ∀ {w'}, Below w1.heap.size w1 w' → Fr (fun j => QS PQ Ss.length j ∨ N ≤ j) w w' := fun h => Fr.of_below (hb1.trans (h.mono hb1.size)) _
  have F1 : Fr (fun j => QS PQ Ss.length j ∨ N ≤ j) w w1 := Fr.of_below hb1 _
  generalize hgw : w.heap.size = gw at b1 hNw hz1 ⊢
  clear hm hr hs
  have c0 : w1.cell? ⟨gw, 0, none⟩ = some (.int .i64 d) := b1.cell 0
  have c1 : w1.cell? ⟨gw, 1, none⟩ = some (.int .i64 a) := b1.cell 1
  have c2 : w1.cell? ⟨gw, 2, none⟩ = some (.int .i64 n) := b1.cell 2
  have c3 : w1.cell? ⟨gw, 3, none⟩ = some (.slice D k dc) := b1.cell 3
  have gl := b1.lt
  by_cases d0 : d = 0
  · subst d0
    have HR : Hid (BS = Bs) := HB
    clear HB
    go_wp2_with fail
    refine (load_any hm1 ha hn).mono ?_
    rintro e w2 ⟨v2, rfl, hown2, hb2⟩
    have b2 := b1.keep hb2
    have c21 : w2.cell? ⟨gw, 1, none⟩ = some (.int .i64 a) := b2.cell 1
    have c22 : w2.cell? ⟨gw, 2, none⟩ = some (.int .i64 n) := b2.cell 2
    go_wp2_with fail
    refine (rload_any (hr1.keep hb2) ha hn).mono ?_
    rintro e w3 ⟨v3, rfl, hown3, hb3⟩
    have hb13 := hb2.trans (hb3.mono hb2.size)
    obtain ⟨V2, k2, rfl, hs2, -⟩ := SlB.of_own (own_below hown2 hb3)
    obtain ⟨V3, k3, rfl, hs3, -⟩ := SlB.of_own hown3
    have hc2 := bytes_str hs2
    have hc3 := bytes_str hs3
    clear hown2 hown3 hs2 hs3 c21 c22
    generalize loadR Ss Bs a n = R at hc2 hc3 ⊢
    obtain ⟨l, is⟩ := R
    simp only at hc2 hc3 ⊢
    cases is
    all_goals
      go_wp2_with fail
      go_ret
      exact ⟨rfl, by rw [HR.out]; exact hm1.keep hb13, by rw [HR.out]; exact hr1.keep hb13, FB hb13⟩
  · have d0' : (d == 0) = false := by simpa using d0
    by_cases d1 : d = 1
    · subst d1
      have HR : Hid (BS = (storeR Ss Bs a b).1) := HB
      clear HB
      go_wp2_with fail
      refine wp_region_fen (fun j => j < N) [(5, 0), (5, 2)] (by kernel_rfl) (by kernel_rfl) ?_
      simp only [wpSegsF, List.take, List.drop]
      repeat (go_big_quiet_step (fail))
      refine wpQuiet_nil (wpHeadF_want rfl (fun K' hK' => ?_))
      go_wp2_with fail
      refine (store_any (w := w1.drew) (hm1.keep (Below.drew (Below.refl _ _))) ha (hs1.keep (Below.drew (Below.refl _ _)))).mono ?_
      rintro e w2 ⟨rfl, hm2, f2⟩
      replace f2 : Fr (QS PQ Ss.length) w1 w2 := ((Fr.refl (QS PQ Ss.length) w1).drew).trans f2
      refine hK' _ _ rfl (fr_graft (f2.mono (fun j _ hj => hQN j hj))) ?_
      clear hK' K'
      have hr2 := hr1.fr f2 hQN
      try simp only [List.take, List.drop]
      repeat (go_big_quiet_step (fail))
      refine wpQuiet_nil (wpHeadF_bar rfl (fun K' hK' => ?_))
      go_wp2_with fail
      refine (rstore_any hr2 ha (hs1.fr f2 (fun b o hp e hj => by have := hQB b hj; have := hxB b o hp e; omega))).mono ?_
      rintro e w3 ⟨rfl, hr3, f3⟩
      refine hK' _ _ (fun _ => False) rfl ?_
      clear hK' K'
      have hm3 := hm2.frN hN f3
      have F3 : Fr (fun j => QS PQ Ss.length j ∨ N ≤ j) w w3 := (F1.trans (f2.mono (fun j _ hj => .inl hj))).trans (f3.mono (fun j _ hj => .inr hj))
      try simp only [wpSegsF]
      generalize storeR Ss Bs a b = R at hm3 hr3 HR ⊢
      obtain ⟨RB, is⟩ := R
      simp only at hm3 hr3 HR ⊢
      cases is
      all_goals
        repeat (go_big_quiet_step (fail))
        refine wpQuiet_nil ?_
        go_wp2_with fail
        go_ret
        exact ⟨rfl, by rw [HR.out]; exact hm3, by rw [HR.out]; exact hr3, F3⟩
    · have d1' : (d == 1) = false := by simpa using d1
      by_cases d2 : d = 2
      · subst d2
        have HR : Hid (BS = Bs) := HB
        clear HB
        go_wp2_with fail
        refine (word_any hm1 ha).mono ?_
        rintro e w2 ⟨rfl, hb2⟩
        have b2 := b1.keep hb2
        have c21 : w2.cell? ⟨gw, 1, none⟩ = some (.int .i64 a) := b2.cell 1
        go_wp2_with fail
        refine (rword_any (hr1.keep hb2) ha).mono ?_
        rintro e w3 ⟨rfl, hb3⟩
        have hb13 := hb2.trans (hb3.mono hb2.size)
        clear c21
        generalize loadR Ss Bs a 4 = R
        obtain ⟨l, is⟩ := R
        simp only
        generalize val4 l = z
        cases is
        all_goals
          go_wp2_with fail
          go_ret
          exact ⟨rfl, by rw [HR.out]; exact hm1.keep hb13, by rw [HR.out]; exact hr1.keep hb13, FB hb13⟩
      · have d2' : (d == 2) = false := by simpa using d2
        by_cases d3 : d = 3
        · subst d3
          have HR : Hid (BS = (storeR Ss Bs a (putB n)).1) := HB
          clear HB
          go_wp2_with fail
          refine wp_region_fen (fun j => j < N) [(5, 0), (5, 2)] (by kernel_rfl) (by kernel_rfl) ?_
          simp only [wpSegsF, List.take, List.drop]
          repeat (go_big_quiet_step (fail))
          refine wpQuiet_nil (wpHeadF_want rfl (fun K' hK' => ?_))
          go_wp2_with fail
          refine (put_any (w := w1.drew) (hm1.keep (Below.drew (Below.refl _ _))) ha hn).mono ?_
          rintro e w2 ⟨rfl, hm2, f2⟩
          replace f2 : Fr (QS PQ Ss.length) w1 w2 := ((Fr.refl (QS PQ Ss.length) w1).drew).trans f2
          refine hK' _ _ rfl (fr_graft (f2.mono (fun j _ hj => hQN j hj))) ?_
          clear hK' K'
          have hr2 := hr1.fr f2 hQN
          try simp only [List.take, List.drop]
          repeat (go_big_quiet_step (fail))
          refine wpQuiet_nil (wpHeadF_bar rfl (fun K' hK' => ?_))
          go_wp2_with fail
          refine (rput_any hr2 ha).mono ?_
          rintro e w3 ⟨rfl, hr3, f3⟩
          refine hK' _ _ (fun _ => False) rfl ?_
          clear hK' K'
          have hm3 := hm2.frN hN f3
          have F3 : Fr (fun j => QS PQ Ss.length j ∨ N ≤ j) w w3 := (F1.trans (f2.mono (fun j _ hj => .inl hj))).trans (f3.mono (fun j _ hj => .inr hj))
          try simp only [wpSegsF]
          generalize storeR Ss Bs a (putB n) = R at hm3 hr3 HR ⊢
          obtain ⟨RB, is⟩ := R
          simp only at hm3 hr3 HR ⊢
          cases is
          all_goals
            repeat (go_big_quiet_step (fail))
            refine wpQuiet_nil ?_
            go_wp2_with fail
            go_ret
            exact ⟨rfl, by rw [HR.out]; exact hm3, by rw [HR.out]; exact hr3, F3⟩
        · have d3' : (d == 3) = false := by simpa using d3
          by_cases d4 : d = 4
          · subst d4
            have HR : Hid (BS = Bs.map zl) := HB
            clear HB
            go_wp2_with fail
            refine (clear_any hm1).mono ?_
            rintro e w2 ⟨rfl, hm2, f2⟩
            have hr2 := hr1.fr f2 hQN
            go_wp2_with fail
            refine (rclear_any hr2).mono ?_
            rintro e w3 ⟨rfl, hr3, f3⟩
            have hm3 := hm2.frN hN f3
            have F3 : Fr (fun j => QS PQ Ss.length j ∨ N ≤ j) w w3 := (F1.trans (f2.mono (fun j _ hj => .inl hj))).trans (f3.mono (fun j _ hj => .inr hj))
            go_wp2_with fail
            go_ret
            exact ⟨rfl, by rw [HR.out]; exact hm3, by rw [HR.out]; exact hr3, F3⟩
          · have d4' : (d == 4) = false := by simpa using d4
            have HR : Hid (BS = Bs) := by unfold Hid; rw [HB.out, if_neg d1, if_neg d3, if_neg d4]
            clear HB d0 d1 d2 d3 d4
            go_wp2_with fail
            refine (findR_any hr1 (ww := false) ha hn).mono ?_
            rintro e w2 ⟨rfl, rfl⟩
            go_wp2_with fail
            refine (findR_any hr1 (ww := true) ha hn).mono ?_
            rintro e w2 ⟨rfl, rfl⟩
            go_wp2_with fail
            refine (may_any hm1 (wr := false) ha hn).mono ?_
            rintro e w2 ⟨rfl, hb2⟩
            have b2 := b1.keep hb2
            have c21 : w2.cell? ⟨gw, 1, none⟩ = some (.int .i64 a) := b2.cell 1
            have c22 : w2.cell? ⟨gw, 2, none⟩ = some (.int .i64 n) := b2.cell 2
            have hi1 := isSome_fdI (fdF Ss Bs a n false)
            generalize (fdF Ss Bs a n false).isSome = y1 at hi1 ⊢
            generalize fdI (fdF Ss Bs a n false) = i1 at hi1 ⊢
            cases y1
            all_goals
              have hi1' := hi1.symm
              clear hi1
              go_wp2_with fail
              refine (may_any (hm1.keep hb2) (wr := true) ha hn).mono ?_
              rintro e w3 ⟨rfl, hb3⟩
              have hb13 := hb2.trans (hb3.mono hb2.size)
              have hi2 := isSome_fdI (fdF Ss Bs a n true)
              generalize (fdF Ss Bs a n true).isSome = y2 at hi2 ⊢
              generalize fdI (fdF Ss Bs a n true) = i2 at hi2 ⊢
              cases y2
              all_goals
                have hi2' := hi2.symm
                clear hi2
                go_wp2_with fail
                go_ret
                exact ⟨rfl, by rw [HR.out]; exact hm1.keep hb13, by rw [HR.out]; exact hr1.keep hb13, FB hb13⟩
end Go.Proofs.Ytpgglefimdllbaa
