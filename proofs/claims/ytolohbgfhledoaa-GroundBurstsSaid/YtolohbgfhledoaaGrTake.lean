/- The walks of package ground: Pack and Take. -/
import Derived.Test.YtolohbgfhledoaaGrWalks
namespace Go.Proofs.Ytolohbgfhledoaa
open Go.RowKit
def packR (p : Pk) : List UInt8 × Int := if mayP p = true then (packB p, 0) else ([], 2)
set_option maxRecDepth 100000 in
theorem pack_any {w : World} {p : Pk} (hp : p.ok) :
    Calls Try.prog 9 #[p.val] w fun e w' => ∃ v, e = .returned (.tuple #[v, .int .i64 (packR p).2]) ∧ w'.ownsRow w.heap.size 5 1 v (packR p).1.length ((packR p).1.map bv) ∧ Below w.heap.size w w' := by
  have hv : p.val = .agg #[.int .i64 p.q, .int .i64 p.k, .int .i64 p.f, .int .i64 p.v] := rfl
  have HV := Lib.hid hv
  rw [hv]
  clear hv
  have b1 := Blk.new w 29 #[.int .i64 p.q, .int .i64 p.k, .int .i64 p.f, .int .i64 p.v]
  have hb0 := (Below.refl w.heap.size w).alloc (Nat.le_refl _) (.cells #[.int .i64 p.q, .int .i64 p.k, .int .i64 p.f, .int .i64 p.v] 29)
  have hlp := plB_len p
  by_cases hm : mayP p = true
  · have HR : Hid (packR p = (plB p ++ lowB (crc (plB p)), 0)) := by unfold Hid packR; rw [if_pos hm]; rfl
    go_enter Try.func9, Try.ntmps9
    go_wp2_with fail
    generalize w.alloc (.cells #[.int .i64 p.q, .int .i64 p.k, .int .i64 p.f, .int .i64 p.v] 29) = w0 at b1 hb0 ⊢
    rw [← HV.out]
    refine may_any.mono ?_
    rintro e w2 ⟨rfl, hb2⟩
    rw [hm]
    have b2 := b1.keep hb2
    have hB2 := hb0.trans (hb2.mono hb0.size)
    have c0 : w2.cell? ⟨w.heap.size, 0, none⟩ = some (.int .i64 p.q) := b2.cell 0
    have c1 : w2.cell? ⟨w.heap.size, 1, none⟩ = some (.int .i64 p.k) := b2.cell 1
    have c2 : w2.cell? ⟨w.heap.size, 2, none⟩ = some (.int .i64 p.f) := b2.cell 2
    have c3 : w2.cell? ⟨w.heap.size, 3, none⟩ = some (.int .i64 p.v) := b2.cell 3
    clear hm
    go_wp2_with fail
    rw [← HV.out]
    refine (plain_any hp).mono ?_
    rintro e w3 ⟨v3, rfl, hown3, hb3⟩
    have hB3 := hB2.trans (hb3.mono hB2.size)
    obtain ⟨A3, k3, rfl, hs3, -⟩ := SlB.of_own hown3
    go_wp2_with fail
    refine (sum_any hs3).mono ?_
    rintro e w4 ⟨rfl, hb4⟩
    have hcl := crc_lt (plB p)
    go_wp2_with fail
    refine (low_any hcl).mono ?_
    rintro e w5 ⟨A5, k5, rfl, hs5, -, hb5⟩
    have hb45 := hb4.trans (hb5.mono hb4.size)
    have hown5 := own_below hown3 hb45
    have hz2 : w2.heap.size ≤ w5.heap.size := Nat.le_trans hb3.size hb45.size
    have hB5 := hB3.trans (hb45.mono hB3.size)
    go_wp2_with (at_builtin; refine wpList_appB w5 (by rfl) _ _ (by rfl) w2.heap.size _ _ _ (by rfl) hown5 A5 4 k5 _ hs5 (by decide) (by rfl) (by omega) hz2 ?_; intro v8 w8 hown8 hf8 hat8)
    go_ret2
    exact ⟨v8, by rw [HR.out]; rfl, by rw [HR.out]; simp only [List.length_append, lowB_len]; exact own_mono hown8 hB2.size, hB5.trans (hf8.below (fun k hk h => own_ne hown5 (show k < w2.heap.size by have := hB2.size; omega) h.symm) hB5.size)⟩
  · have HR : Hid (packR p = ([], 2)) := by unfold Hid packR; rw [if_neg hm]
    have hm' : mayP p = false := by simpa using hm
    clear hm
    go_enter Try.func9, Try.ntmps9
    go_wp2_with fail
    generalize w.alloc (.cells #[.int .i64 p.q, .int .i64 p.k, .int .i64 p.f, .int .i64 p.v] 29) = w0 at b1 hb0 ⊢
    rw [← HV.out]
    refine may_any.mono ?_
    rintro e w2 ⟨rfl, hb2⟩
    rw [hm']
    go_wp2_with fail
    go_ret2
    exact ⟨.slice none 0 0, by rw [HR.out]; rfl, by rw [HR.out]; exact World.ownsRow_nil _ _ _ _, hb0.trans (hb2.mono hb0.size)⟩
theorem atB_ext {xs ys : List UInt8} (hl : xs.length = ys.length) (h : ∀ j, j < xs.length → atB xs j = atB ys j) : xs = ys := by
  refine List.ext_getElem hl (fun j h1 h2 => ?_)
  have := h j h1
  rwa [atB_lt h1, atB_lt h2] at this
theorem eqB_any {w : World} {A : Option Addr} {n c : Nat} {xs : List UInt8} {B : Option Addr} {m d : Nat} {ys : List UInt8} (hx : SlB w A n c xs) (hy : SlB w B m d ys) :
    Calls Try.prog 33 #[.slice A n c, .slice B m d] w fun e w' => e = .returned (.bool (decide (xs = ys))) ∧ ∃ k, w' = w.drewN k := by
  have hn := hx.len
  have hm := hy.len
  have hl := hx.2
  have hl' := hy.2
  by_cases hnm : n = m
  · subst hnm
    have KEY : Hid ((∀ j, j < n → atB xs j = atB ys j) → decide (xs = ys) = true) := fun h => by
      rw [decide_eq_true_eq]
      exact atB_ext (by omega) (by rw [hl]; exact h)
    go_enter Try.func33, Try.ntmps33
    go_wp2_with fail
    go_loopw [13] (fun i wr => ∃ k : Nat, k ≤ n ∧ i = .int .i64 k ∧ Hid (∀ j, j < k → atB xs j = atB ys j) ∧ ∃ q, wr = w.drewN q) (fun i _ => n - (intOf i).toNat)
    case atStart => exact ⟨0, Nat.zero_le _, rfl, fun j hj => by omega, 0, rfl⟩
    case round =>
      obtain ⟨k, hk, rfl, HS, q, rfl⟩ := hrel
      by_cases hlt : k < n
      · obtain ⟨b, o, rfl, hb, hck⟩ := hx.at_ hlt
        obtain ⟨b', o', rfl, hb', hck'⟩ := hy.at_ hlt
        clear hx hy hl hl'
        by_cases he : atB xs k = atB ys k
        · have HE := Lib.hid he
          have heb : (((atB xs k).toNat : Int) != ((atB ys k).toNat : Int)) = false := by rw [he]; simp
          clear he
          go_wp2_with fail
          go_quiet (fail)
          go_wp2_with fail
          refine ⟨⟨k + 1, by omega, by go_num, fun j hj => ?_, _, rfl⟩, by simp [intOf]; omega⟩
          by_cases hjk : j = k
          · subst hjk; exact HE.out
          · exact HS.out j (by omega)
        · have heb : (((atB xs k).toNat : Int) != ((atB ys k).toNat : Int)) = true := by
            have : ¬ (atB xs k).toNat = (atB ys k).toNat := fun h => he (UInt8.toNat_inj.1 h)
            simp; omega
          have HNE : Hid (decide (xs = ys) = false) := by
            unfold Hid
            rw [decide_eq_false_iff_not]; intro h; rw [h] at he; exact he rfl
          clear he
          go_wp2_with fail
          go_quiet (fail)
          go_wp2_with fail
          go_ret
          exact ⟨by rw [HNE.out]; rfl, _, by rw [World.drewN_drewN]⟩
      · obtain rfl : k = n := by omega
        have HD := Lib.hid (KEY.out HS.out)
        clear KEY
        go_wp2_with fail
        go_ret
        exact ⟨by rw [HD.out]; rfl, _, rfl⟩
  · have h1 : ((n : Int) != m) = true := by simp; omega
    have HNE : Hid (decide (xs = ys) = false) := by
      unfold Hid
      rw [decide_eq_false_iff_not]; intro h; rw [h] at hl; omega
    clear hl hl' hnm
    go_enter Try.func33, Try.ntmps33
    go_wp2_with fail
    go_ret
    exact ⟨by rw [HNE.out]; rfl, 0, rfl⟩
theorem Blk.set4 {w : World} {g : Nat} {t : TypeId} {a b c d : Value} (h : Blk w g t #[a, b, c, d]) (x0 x1 x2 x3 : Value) : Blk ((((w.setCell ⟨g, 0, none⟩ x0).setCell ⟨g, 1, none⟩ x1).setCell ⟨g, 2, none⟩ x2).setCell ⟨g, 3, none⟩ x3) g t #[x0, x1, x2, x3] :=
  (((h.set_ 0 x0).set_ 1 x1).set_ 2 x2).set_ 3 x3
theorem below_set4 {B g : Nat} {w w' : World} (h : Below B w w') (hg : B ≤ g) (x0 x1 x2 x3 : Value) : Below B w ((((w'.setCell ⟨g, 0, none⟩ x0).setCell ⟨g, 1, none⟩ x1).setCell ⟨g, 2, none⟩ x2).setCell ⟨g, 3, none⟩ x3) :=
  (((h.setCell hg _).setCell hg _).setCell hg _).setCell hg _
theorem takeP_form {x : UInt8} {r : List UInt8} (h : ¬ x.toNat = 165) : takeP (x :: r) = (pk0, 0, 12) := by simp only [takeP]; rw [if_neg h]
theorem takeP_err {x : UInt8} {r : List UInt8} (h : x.toNat = 165) (he : (g4 r).2.e ≠ 0) : takeP (x :: r) = (pk0, 0, (g4 r).2.e) := by simp only [takeP]; rw [if_pos h, if_pos he]
theorem takeP_cut {x : UInt8} {r : List UInt8} (h : x.toNat = 165) (he : (g4 r).2.e = 0) (hl : (g4 r).2.l.length < 4) : takeP (x :: r) = (pk0, 0, 10) := by
  simp only [takeP]; rw [if_pos h, if_neg (by simpa using he), if_pos hl]
theorem takeP_bad {x : UInt8} {r : List UInt8} (h : x.toNat = 165) (he : (g4 r).2.e = 0) (hl : ¬ (g4 r).2.l.length < 4) (hs : ¬ ((g4 r).2.l.take 4 = lowB (crc (plB (g4 r).1)) ∧ mayP (g4 r).1 = true)) : takeP (x :: r) = (pk0, 0, 12) := by
  simp only [takeP]; rw [if_pos h, if_neg (by simpa using he), if_neg hl, if_neg hs]
theorem takeP_good {x : UInt8} {r : List UInt8} (h : x.toNat = 165) (he : (g4 r).2.e = 0) (hl : ¬ (g4 r).2.l.length < 4) (hs : (g4 r).2.l.take 4 = lowB (crc (plB (g4 r).1)) ∧ mayP (g4 r).1 = true) : takeP (x :: r) = ((g4 r).1, (plB (g4 r).1).length + 4, 0) := by
  simp only [takeP]; rw [if_pos h, if_neg (by simpa using he), if_neg hl, if_pos hs]
theorem size1' (w : World) : (sizeOf (Try.prog.elem 24)).run Try.prog w = .ok 1 w := by kernel_rfl
set_option maxRecDepth 100000 in
set_option maxHeartbeats 4000000 in
theorem take_any' {w : World} {A : Option Addr} {n c : Nat} {b : List UInt8} (hb : SlB w A n c b) (hn : n ≤ 100000) :
    Calls Try.prog 12 #[.slice A n c] w fun e w' => e = .returned (.tuple #[(takeP b).1.val, .int .i64 ((takeP b).2.1 : Nat), .int .i64 (takeP b).2.2]) ∧ Below w.heap.size w w' := by
  have hbl := hb.2
  have hnc := hb.1.2.1
  have hz := (Below.refl w.heap.size w).alloc (Nat.le_refl _) (.cells #[.int .i64 0, .int .i64 0, .int .i64 0, .int .i64 0] 29)
  have bz := Blk.new w 29 #[.int .i64 0, .int .i64 0, .int .i64 0, .int .i64 0]
  cases b with
  | nil =>
    obtain rfl : n = 0 := by simpa using hbl.symm
    go_enter Try.func12, Try.ntmps12
    go_wp2_with fail
    refine bodyPost_ret (v := .tuple #[.agg #[.int .i64 0, .int .i64 0, .int .i64 0, .int .i64 0], .int .i64 0, .int .i64 10]) (by simp [results, Try.results12, go_sem]) rfl ⟨?_, ?_⟩
    · rfl
    · exact hz
  | cons x r =>
    obtain ⟨m, rfl⟩ : ∃ m, n = m + 1 := ⟨r.length, by simpa using hbl.symm⟩
    have hne0 : ((m : Int) + 1 == 0) = false := by simp; omega
    obtain ⟨bb, o, rfl, hlt, hc⟩ := hb.at_ (k := 0) (by omega)
    rw [Nat.add_zero, show atB (x :: r) 0 = x from rfl] at hc
    by_cases hx : x.toNat = 165
    · have hx2 : ((x.toNat : Int) != 165) = false := by simp; omega
      have hsl := fun w => run_cut_l u_bytes size1' w (some ⟨bb, o, none⟩) (m + 1) c 1 (by omega)
      rw [show ((1 : Nat) : Int) = 1 from rfl, show m + 1 - 1 = m from rfl] at hsl
      have hcut := hb.cut (lo := 1) (hi := m + 1) (by omega) (Nat.le_refl _)
      have hrm : r.length = m := by simpa using hbl
      rw [show m + 1 - 1 = m from rfl, show ((x :: r).drop 1).take m = r from by rw [List.drop_one, List.tail_cons]; exact List.take_of_length_le (by omega)] at hcut
      have HX := Lib.hid hx
      clear hx hbl
      have hg4 : g4 r = (⟨(gInt ⟨r, 0⟩).1, (gInt (gInt ⟨r, 0⟩).2).1, (gInt (gInt (gInt ⟨r, 0⟩).2).2).1, (gInt (gInt (gInt (gInt ⟨r, 0⟩).2).2).2).1⟩, (gInt (gInt (gInt (gInt ⟨r, 0⟩).2).2).2).2) := rfl
      have hok := g4_ok r gInt_rng
      have HG := Lib.hid hg4
      clear hg4
      go_enter Try.func12, Try.ntmps12
      go_wp2_with fail
      generalize w.alloc (.cells #[.int .i64 0, .int .i64 0, .int .i64 0, .int .i64 0] 29) = w0 at hz bz ⊢
      refine (read_any (hcut.keep hz) (by omega)).mono ?_
      rintro e w1 ⟨g, B, rfl, hr1, hg1, hb1⟩
      have hB1 := hz.trans (hb1.mono hz.size)
      have bz1 := bz.keep hb1
      have hgz : w.heap.size < g := Nat.lt_of_lt_of_le bz.lt hg1
      go_wp2_with fail
      refine (rdInt_any hr1).mono ?_
      rintro e w2 ⟨rfl, hr2, hf2⟩
      go_wp2_with fail
      refine (rdInt_any hr2).mono ?_
      rintro e w3 ⟨rfl, hr3, hf3⟩
      go_wp2_with fail
      refine (rdInt_any hr3).mono ?_
      rintro e w4 ⟨rfl, hr4, hf4⟩
      go_wp2_with fail
      refine (rdInt_any hr4).mono ?_
      rintro e w5 ⟨rfl, hr5, hf5⟩
      have hf := ((hf2.trans hf3).trans hf4).trans hf5
      have bz5 := bz1.fr hf (by omega)
      have hB5 := hB1.trans (hf.below (fun k hk h => by omega) hB1.size)
      generalize (gInt ⟨r, 0⟩).1 = q1 at HG ⊢
      generalize (gInt (gInt ⟨r, 0⟩).2).1 = q2 at HG ⊢
      generalize (gInt (gInt (gInt ⟨r, 0⟩).2).2).1 = q3 at HG ⊢
      generalize (gInt (gInt (gInt (gInt ⟨r, 0⟩).2).2).2).1 = q4 at HG ⊢
      generalize (gInt (gInt (gInt (gInt ⟨r, 0⟩).2).2).2).2 = s5 at HG hr5
      clear hr2 hr3 hr4 hf2 hf3 hf4 hf5 hr1
      rw [HG.out] at hok
      have hb6 := (Below.refl w5.heap.size w5).alloc (Nat.le_refl _) (.cells #[.int .i64 q1, .int .i64 q2, .int .i64 q3, .int .i64 q4] 29)
      have bp6 := Blk.new w5 29 #[.int .i64 q1, .int .i64 q2, .int .i64 q3, .int .i64 q4]
      have hr6 := hr5.keep hb6
      have bz6 := bz5.keep hb6
      have hB6 := hB5.trans (hb6.mono hB5.size)
      have hzp : w.heap.size < w5.heap.size := bz5.lt
      go_wp2_with fail
      generalize w5.alloc (.cells #[.int .i64 q1, .int .i64 q2, .int .i64 q3, .int .i64 q4] 29) = w6 at hb6 bp6 hr6 bz6 hB6 ⊢
      generalize w5.heap.size = pp at bp6 hzp ⊢
      clear hb6 hr5 bz5 hB5
      refine (err_any hr6).mono ?_
      rintro e w7 ⟨rfl, rfl⟩
      by_cases he : s5.e = 0
      · have he' : (s5.e != 0) = false := by simpa using he
        have p0 : w6.cell? ⟨pp, 0, none⟩ = some (.int .i64 q1) := bp6.cell 0
        have p1 : w6.cell? ⟨pp, 1, none⟩ = some (.int .i64 q2) := bp6.cell 1
        have p2 : w6.cell? ⟨pp, 2, none⟩ = some (.int .i64 q3) := bp6.cell 2
        have p3 : w6.cell? ⟨pp, 3, none⟩ = some (.int .i64 q4) := bp6.cell 3
        have hE : (g4 r).2.e = 0 := by rw [HG.out]; exact he
        have hr := g4_inv hE
        rw [HG.out] at hr
        simp only at hr
        have hbytes : x :: r = plB ⟨q1, q2, q3, q4⟩ ++ s5.l := by
          have hx2 : x = 165 := UInt8.toNat_inj.1 (by rw [HX.out]; rfl)
          rw [hx2]
          unfold plB
          rw [List.cons_append, ← hr]
        have hlenb : m + 1 = (plB ⟨q1, q2, q3, q4⟩).length + s5.l.length := by
          have := congrArg List.length hbytes
          rw [List.length_append, List.length_cons, hrm] at this
          exact this
        have HBY := Lib.hid hbytes
        have HE := Lib.hid hE
        have hlp := plB_len ⟨q1, q2, q3, q4⟩
        have HC1 : Hid (s5.l.length < 4 → takeP (x :: r) = (pk0, 0, 10)) := fun h => takeP_cut HX.out HE.out (by rw [HG.out]; exact h)
        have HC2 : Hid (¬ s5.l.length < 4 → ¬ (s5.l.take 4 = lowB (crc (plB ⟨q1, q2, q3, q4⟩)) ∧ mayP ⟨q1, q2, q3, q4⟩ = true) → takeP (x :: r) = (pk0, 0, 12)) := fun h1 h2 => takeP_bad HX.out HE.out (by rw [HG.out]; exact h1) (by rw [HG.out]; exact h2)
        have HC3 : Hid (¬ s5.l.length < 4 → (s5.l.take 4 = lowB (crc (plB ⟨q1, q2, q3, q4⟩)) ∧ mayP ⟨q1, q2, q3, q4⟩ = true) → takeP (x :: r) = (⟨q1, q2, q3, q4⟩, (plB ⟨q1, q2, q3, q4⟩).length + 4, 0)) := fun h1 h2 => by
          have := takeP_good HX.out HE.out (by rw [HG.out]; exact h1) (by rw [HG.out]; exact h2)
          rw [HG.out] at this
          exact this
        have HLB := Lib.hid hlenb
        clear he hr hbytes hE HG hlenb
        go_wp2_with fail
        refine (plain_any (p := ⟨q1, q2, q3, q4⟩) hok).mono ?_
        rintro e w7 ⟨v7, rfl, hown7, hb7⟩
        obtain ⟨A7, c7, rfl, hs7, -⟩ := SlB.of_own hown7
        have bz7 := bz6.keep hb7
        have bp7 := bp6.keep hb7
        have hB7 := hB6.trans (hb7.mono hB6.size)
        have p0 : w7.cell? ⟨pp, 0, none⟩ = some (.int .i64 q1) := bp7.cell 0
        have p1 : w7.cell? ⟨pp, 1, none⟩ = some (.int .i64 q2) := bp7.cell 1
        have p2 : w7.cell? ⟨pp, 2, none⟩ = some (.int .i64 q3) := bp7.cell 2
        have p3 : w7.cell? ⟨pp, 3, none⟩ = some (.int .i64 q4) := bp7.cell 3
        have hlenb := HLB.out
        clear HLB
        generalize hL : (plB ⟨q1, q2, q3, q4⟩).length = L at hlenb hlp hs7 HC3 ⊢
        have HL := Lib.hid hL
        clear hL hown7
        by_cases hsh : s5.l.length < 4
        · have HT := Lib.hid (HC1.out hsh)
          have hsh' : m + 1 < L + 4 := by omega
          have hsh2 : m < L + 3 := by omega
          have BZ := bz7
          have HB := hB7
          have z0 : w7.cell? ⟨w.heap.size, 0, none⟩ = some (.int .i64 0) := BZ.cell 0
          have z1 : w7.cell? ⟨w.heap.size, 1, none⟩ = some (.int .i64 0) := BZ.cell 1
          have z2 : w7.cell? ⟨w.heap.size, 2, none⟩ = some (.int .i64 0) := BZ.cell 2
          have z3 : w7.cell? ⟨w.heap.size, 3, none⟩ = some (.int .i64 0) := BZ.cell 3
          have fz : ∀ i, w7.frozen? ⟨w.heap.size, i, none⟩ = false := BZ.frozen
          have hzl := BZ.lt
          clear hsh HC1 HC2 HC3 hlenb
          go_wp2_with fail
          have bz9 := Blk.set4 BZ (.int .i64 0) (.int .i64 0) (.int .i64 0) (.int .i64 0)
          have hB9 := below_set4 (g := w.heap.size) HB (Nat.le_refl _) (.int .i64 0) (.int .i64 0) (.int .i64 0) (.int .i64 0)
          generalize (((w7.setCell ⟨w.heap.size, 0, none⟩ (.int .i64 0)).setCell ⟨w.heap.size, 1, none⟩ (.int .i64 0)).setCell ⟨w.heap.size, 2, none⟩ (.int .i64 0)).setCell ⟨w.heap.size, 3, none⟩ (.int .i64 0) = w9 at bz9 hB9 ⊢
          have y0 : w9.cell? ⟨w.heap.size, 0, none⟩ = some (.int .i64 0) := bz9.cell 0
          have y1 : w9.cell? ⟨w.heap.size, 1, none⟩ = some (.int .i64 0) := bz9.cell 1
          have y2 : w9.cell? ⟨w.heap.size, 2, none⟩ = some (.int .i64 0) := bz9.cell 2
          have y3 : w9.cell? ⟨w.heap.size, 3, none⟩ = some (.int .i64 0) := bz9.cell 3
          refine bodyPost_ret (v := .tuple #[.agg #[.int .i64 0, .int .i64 0, .int .i64 0, .int .i64 0], .int .i64 0, .int .i64 10]) (by simp [results, Try.results12, go_sem, y0, y1, y2, y3]) rfl ⟨?_, hB9⟩
          rw [HT.out]
          rfl
        · have hsh' : ¬ m + 1 < L + 4 := by omega
          have hsh2 : ¬ m < L + 3 := by omega
          have hsl2 := fun w => run_cut_lh u_bytes size1' w (some ⟨bb, o, none⟩) (m + 1) c L (L + 4) (by omega) (by omega)
          rw [show ((L + 4 : Nat) : Int) = (L : Int) + 4 by simp, show L + 4 - L = 4 by omega] at hsl2
          have hcut2 := (hb.keep hB7).cut (lo := L) (hi := L + 4) (by omega) (by omega)
          rw [show L + 4 - L = 4 by omega, HBY.out, show (plB ⟨q1, q2, q3, q4⟩ ++ s5.l).drop L = s5.l by rw [← HL.out]; exact List.drop_left] at hcut2
          have hcl := crc_lt (plB ⟨q1, q2, q3, q4⟩)
          have hpl := bp7.lt
          have HLB := Lib.hid hlenb
          clear hlenb
          go_wp2_with fail
          refine wp_region_at (fun _ => False) [6, 0, 0, 3] (by kernel_rfl) (by kernel_rfl) ?_
          simp only [wpSegs, List.take, List.drop]
          repeat (go_big_quiet_step (fail))
          refine wpQuiet_nil (wpHead_want rfl (fun K' hK' => ?_))
          go_wp2_with fail
          refine (sum_any (w := w7.drew) (hs7.keep (Below.drew (Below.refl _ _)))).mono ?_
          rintro e u1 ⟨rfl, hu1⟩
          replace hu1 : Below w7.heap.size w7 u1 := (Below.drew (Below.refl _ w7)).trans hu1
          refine hK' _ _ rfl (fr_graft (Fr.of_below hu1 _)) ?_
          clear hK' K'
          try simp only [List.take, List.drop]
          repeat (go_big_quiet_step (fail))
          refine wpQuiet_nil (wpHead_want rfl (fun K' hK' => ?_))
          go_wp2_with fail
          refine (low_any hcl).mono ?_
          rintro e u2 ⟨Al, kl, rfl, hsl4, -, hu2⟩
          replace hu2 : Below w7.heap.size w7 u2 := hu1.trans (hu2.mono hu1.size)
          refine hK' _ _ rfl (fr_graft (Fr.of_below hu2 _)) ?_
          clear hK' K'
          try simp only [List.take, List.drop]
          repeat (go_big_quiet_step (fail))
          refine wpQuiet_nil (wpHead_want rfl (fun K' hK' => ?_))
          go_wp2_with fail
          refine (eqB_any (hcut2.keep hu2) hsl4).mono ?_
          rintro e u3 ⟨rfl, q3', rfl⟩
          have hu3 := below_drewN hu2 q3'
          generalize u2.drewN q3' = u3 at hu3 ⊢
          have hB3 := hB7.trans (hu3.mono hB7.size)
          have bz3 := bz7.keep hu3
          refine hK' _ _ rfl (fr_graft (Fr.of_below hu3 _)) ?_
          clear hK' K'
          by_cases heq : s5.l.take 4 = lowB (crc (plB ⟨q1, q2, q3, q4⟩))
          · have hd : decide (s5.l.take 4 = lowB (crc (plB ⟨q1, q2, q3, q4⟩))) = true := by simpa using heq
            rw [hd]
            try simp only [List.take, List.drop]
            repeat (go_big_quiet_step (fail))
            refine wpQuiet_nil (wpHead_want rfl (fun K' hK' => ?_))
            go_wp2_with fail
            refine (may_any (p := ⟨q1, q2, q3, q4⟩)).mono ?_
            rintro e u4 ⟨rfl, hu4⟩
            have hB4 := hB3.trans (hu4.mono hB3.size)
            have bz4 := bz3.keep hu4
            replace hu4 : Below w7.heap.size w7 u4 := hu3.trans (hu4.mono hu3.size)
            have bp4 := bp7.keep hu4
            refine hK' _ _ rfl (fr_graft (Fr.of_below hu4 _)) ?_
            clear hK' K'
            have BZ := bz4
            have HB := hB4
            by_cases hm : mayP ⟨q1, q2, q3, q4⟩ = true
            · have HT := Lib.hid (HC3.out hsh ⟨heq, hm⟩)
              rw [hm]
              have p0 : u4.cell? ⟨pp, 0, none⟩ = some (.int .i64 q1) := bp4.cell 0
              have p1 : u4.cell? ⟨pp, 1, none⟩ = some (.int .i64 q2) := bp4.cell 1
              have p2 : u4.cell? ⟨pp, 2, none⟩ = some (.int .i64 q3) := bp4.cell 2
              have p3 : u4.cell? ⟨pp, 3, none⟩ = some (.int .i64 q4) := bp4.cell 3
              have z0 : u4.cell? ⟨w.heap.size, 0, none⟩ = some (.int .i64 0) := BZ.cell 0
              have z1 : u4.cell? ⟨w.heap.size, 1, none⟩ = some (.int .i64 0) := BZ.cell 1
              have z2 : u4.cell? ⟨w.heap.size, 2, none⟩ = some (.int .i64 0) := BZ.cell 2
              have z3 : u4.cell? ⟨w.heap.size, 3, none⟩ = some (.int .i64 0) := BZ.cell 3
              have fz : ∀ i, u4.frozen? ⟨w.heap.size, i, none⟩ = false := BZ.frozen
              have hzl := BZ.lt
              clear hm heq hd
              repeat (go_big_quiet_step (fail))
              refine wpQuiet_nil ?_
              go_wp2_with fail
              have bz9 := Blk.set4 BZ (.int .i64 q1) (.int .i64 q2) (.int .i64 q3) (.int .i64 q4)
              have hB9 := below_set4 (g := w.heap.size) HB (Nat.le_refl _) (.int .i64 q1) (.int .i64 q2) (.int .i64 q3) (.int .i64 q4)
              generalize (((u4.setCell ⟨w.heap.size, 0, none⟩ (.int .i64 q1)).setCell ⟨w.heap.size, 1, none⟩ (.int .i64 q2)).setCell ⟨w.heap.size, 2, none⟩ (.int .i64 q3)).setCell ⟨w.heap.size, 3, none⟩ (.int .i64 q4) = w9 at bz9 hB9 ⊢
              have y0 : w9.cell? ⟨w.heap.size, 0, none⟩ = some (.int .i64 q1) := bz9.cell 0
              have y1 : w9.cell? ⟨w.heap.size, 1, none⟩ = some (.int .i64 q2) := bz9.cell 1
              have y2 : w9.cell? ⟨w.heap.size, 2, none⟩ = some (.int .i64 q3) := bz9.cell 2
              have y3 : w9.cell? ⟨w.heap.size, 3, none⟩ = some (.int .i64 q4) := bz9.cell 3
              refine bodyPost_ret (v := .tuple #[.agg #[.int .i64 q1, .int .i64 q2, .int .i64 q3, .int .i64 q4], .int .i64 ((L : Int) + 4), .int .i64 0]) (by simp [results, Try.results12, go_sem, y0, y1, y2, y3]) rfl ⟨?_, hB9⟩
              rw [HT.out]
              rfl
            · have HT := Lib.hid (HC2.out hsh (fun h => hm h.2))
              have hm' : mayP ⟨q1, q2, q3, q4⟩ = false := by simpa using hm
              rw [hm']
              have z0 : u4.cell? ⟨w.heap.size, 0, none⟩ = some (.int .i64 0) := BZ.cell 0
              have z1 : u4.cell? ⟨w.heap.size, 1, none⟩ = some (.int .i64 0) := BZ.cell 1
              have z2 : u4.cell? ⟨w.heap.size, 2, none⟩ = some (.int .i64 0) := BZ.cell 2
              have z3 : u4.cell? ⟨w.heap.size, 3, none⟩ = some (.int .i64 0) := BZ.cell 3
              have fz : ∀ i, u4.frozen? ⟨w.heap.size, i, none⟩ = false := BZ.frozen
              have hzl := BZ.lt
              clear hm heq hd
              repeat (go_big_quiet_step (fail))
              refine wpQuiet_nil ?_
              go_wp2_with fail
              have bz9 := Blk.set4 BZ (.int .i64 0) (.int .i64 0) (.int .i64 0) (.int .i64 0)
              have hB9 := below_set4 (g := w.heap.size) HB (Nat.le_refl _) (.int .i64 0) (.int .i64 0) (.int .i64 0) (.int .i64 0)
              generalize (((u4.setCell ⟨w.heap.size, 0, none⟩ (.int .i64 0)).setCell ⟨w.heap.size, 1, none⟩ (.int .i64 0)).setCell ⟨w.heap.size, 2, none⟩ (.int .i64 0)).setCell ⟨w.heap.size, 3, none⟩ (.int .i64 0) = w9 at bz9 hB9 ⊢
              have y0 : w9.cell? ⟨w.heap.size, 0, none⟩ = some (.int .i64 0) := bz9.cell 0
              have y1 : w9.cell? ⟨w.heap.size, 1, none⟩ = some (.int .i64 0) := bz9.cell 1
              have y2 : w9.cell? ⟨w.heap.size, 2, none⟩ = some (.int .i64 0) := bz9.cell 2
              have y3 : w9.cell? ⟨w.heap.size, 3, none⟩ = some (.int .i64 0) := bz9.cell 3
              refine bodyPost_ret (v := .tuple #[.agg #[.int .i64 0, .int .i64 0, .int .i64 0, .int .i64 0], .int .i64 0, .int .i64 12]) (by simp [results, Try.results12, go_sem, y0, y1, y2, y3]) rfl ⟨?_, hB9⟩
              rw [HT.out]
              rfl
          · have hd : decide (s5.l.take 4 = lowB (crc (plB ⟨q1, q2, q3, q4⟩))) = false := by simpa using heq
            have HT := Lib.hid (HC2.out hsh (fun h => heq h.1))
            rw [hd]
            try simp only [List.take, List.drop]
            repeat (go_big_quiet_step (fail))
            refine wpQuiet_nil (wpHead_skip rfl ?_)
            have BZ := bz3
            have HB := hB3
            have z0 : u3.cell? ⟨w.heap.size, 0, none⟩ = some (.int .i64 0) := BZ.cell 0
            have z1 : u3.cell? ⟨w.heap.size, 1, none⟩ = some (.int .i64 0) := BZ.cell 1
            have z2 : u3.cell? ⟨w.heap.size, 2, none⟩ = some (.int .i64 0) := BZ.cell 2
            have z3 : u3.cell? ⟨w.heap.size, 3, none⟩ = some (.int .i64 0) := BZ.cell 3
            have fz : ∀ i, u3.frozen? ⟨w.heap.size, i, none⟩ = false := BZ.frozen
            have hzl := BZ.lt
            clear heq hd
            simp only [Act.put, List.setIfInBounds_toArray, List.set_cons_succ, List.set_cons_zero]
            repeat (go_big_quiet_step (fail))
            refine wpQuiet_nil ?_
            go_wp2_with fail
            have bz9 := Blk.set4 BZ (.int .i64 0) (.int .i64 0) (.int .i64 0) (.int .i64 0)
            have hB9 := below_set4 (g := w.heap.size) HB (Nat.le_refl _) (.int .i64 0) (.int .i64 0) (.int .i64 0) (.int .i64 0)
            generalize (((u3.setCell ⟨w.heap.size, 0, none⟩ (.int .i64 0)).setCell ⟨w.heap.size, 1, none⟩ (.int .i64 0)).setCell ⟨w.heap.size, 2, none⟩ (.int .i64 0)).setCell ⟨w.heap.size, 3, none⟩ (.int .i64 0) = w9 at bz9 hB9 ⊢
            have y0 : w9.cell? ⟨w.heap.size, 0, none⟩ = some (.int .i64 0) := bz9.cell 0
            have y1 : w9.cell? ⟨w.heap.size, 1, none⟩ = some (.int .i64 0) := bz9.cell 1
            have y2 : w9.cell? ⟨w.heap.size, 2, none⟩ = some (.int .i64 0) := bz9.cell 2
            have y3 : w9.cell? ⟨w.heap.size, 3, none⟩ = some (.int .i64 0) := bz9.cell 3
            refine bodyPost_ret (v := .tuple #[.agg #[.int .i64 0, .int .i64 0, .int .i64 0, .int .i64 0], .int .i64 0, .int .i64 12]) (by simp [results, Try.results12, go_sem, y0, y1, y2, y3]) rfl ⟨?_, hB9⟩
            rw [HT.out]
            rfl
      · have he' : (s5.e != 0) = true := by simpa using he
        have HT : Hid (takeP (x :: r) = (pk0, 0, s5.e)) := by
          unfold Hid
          rw [takeP_err HX.out (by rw [HG.out]; exact he), HG.out]
        have BZ := bz6
        have HB := hB6
        have z0 : w6.cell? ⟨w.heap.size, 0, none⟩ = some (.int .i64 0) := BZ.cell 0
        have z1 : w6.cell? ⟨w.heap.size, 1, none⟩ = some (.int .i64 0) := BZ.cell 1
        have z2 : w6.cell? ⟨w.heap.size, 2, none⟩ = some (.int .i64 0) := BZ.cell 2
        have z3 : w6.cell? ⟨w.heap.size, 3, none⟩ = some (.int .i64 0) := BZ.cell 3
        have fz : ∀ i, w6.frozen? ⟨w.heap.size, i, none⟩ = false := BZ.frozen
        have hzl := BZ.lt
        clear he
        go_wp2_with fail
        have bz9 := Blk.set4 BZ (.int .i64 0) (.int .i64 0) (.int .i64 0) (.int .i64 0)
        have hB9 := below_set4 (g := w.heap.size) HB (Nat.le_refl _) (.int .i64 0) (.int .i64 0) (.int .i64 0) (.int .i64 0)
        generalize (((w6.setCell ⟨w.heap.size, 0, none⟩ (.int .i64 0)).setCell ⟨w.heap.size, 1, none⟩ (.int .i64 0)).setCell ⟨w.heap.size, 2, none⟩ (.int .i64 0)).setCell ⟨w.heap.size, 3, none⟩ (.int .i64 0) = w9 at bz9 hB9 ⊢
        have y0 : w9.cell? ⟨w.heap.size, 0, none⟩ = some (.int .i64 0) := bz9.cell 0
        have y1 : w9.cell? ⟨w.heap.size, 1, none⟩ = some (.int .i64 0) := bz9.cell 1
        have y2 : w9.cell? ⟨w.heap.size, 2, none⟩ = some (.int .i64 0) := bz9.cell 2
        have y3 : w9.cell? ⟨w.heap.size, 3, none⟩ = some (.int .i64 0) := bz9.cell 3
        refine bodyPost_ret (v := .tuple #[.agg #[.int .i64 0, .int .i64 0, .int .i64 0, .int .i64 0], .int .i64 0, .int .i64 s5.e]) (by simp [results, Try.results12, go_sem, y0, y1, y2, y3]) rfl ⟨?_, hB9⟩
        rw [HT.out]
        rfl
    · have hx2 : ((x.toNat : Int) != 165) = true := by simp; omega
      have HT := Lib.hid (takeP_form (r := r) hx)
      clear hx
      go_enter Try.func12, Try.ntmps12
      go_wp2_with fail
      refine bodyPost_ret (v := .tuple #[.agg #[.int .i64 0, .int .i64 0, .int .i64 0, .int .i64 0], .int .i64 0, .int .i64 12]) (by simp [results, Try.results12, go_sem]) rfl ⟨?_, ?_⟩
      · rw [HT.out]; rfl
      · exact hz
end Go.Proofs.Ytolohbgfhledoaa
