/- The law MemBack returns true whatever the input. -/
import Derived.Test.YtpgglefimdllbaaMemBackSpec
namespace Go.Proofs.Ytpgglefimdllbaa
open Go.RowKit
theorem Ac.ok.keep {w w' : World} {x : Ac} (h : x.ok w) (hb : Below w.heap.size w w') : x.ok w' := ⟨h.1, h.2.1, h.2.2.1, h.2.2.2.keep hb⟩
theorem frI_rng {Ss : List Sg} {Bs : List (List UInt8)} {a n : Int} {wr : Bool} (h256 : ∀ k, lnB Bs k ≤ 256) : 0 ≤ frI Ss a (fdF Ss Bs a n wr) ∧ frI Ss a (fdF Ss Bs a n wr) ≤ 256 := by
  cases h : fdF Ss Bs a n wr with
  | none => exact ⟨Int.le_refl _, by show (0 : Int) ≤ 256; decide⟩
  | some k =>
    obtain ⟨hk, f, m, hf, hm, hroom⟩ := fdF_room h
    have := h256 k
    unfold lnB at this
    simp only [frI, hf]
    omega
theorem fdI_rng {Ss : List Sg} {Bs : List (List UInt8)} {a n : Int} {wr : Bool} : -1 ≤ fdI (fdF Ss Bs a n wr) := by
  cases h : fdF Ss Bs a n wr with
  | none => exact Int.le_refl _
  | some k => simp only [fdI]; omega
set_option maxRecDepth 100000 in
set_option maxHeartbeats 12000000 in
theorem memBack_law {w : World} {A : Option Addr} {n c : Nat} {L : List Sg} (h : SlG w A n c 3 sgC L) (hok : ∀ s ∈ L, s.ok) {D : Option Addr} {m dc : Nat} {l : List Ac} (hl : SlG w D m dc 4 acC l) (hlo : ∀ x ∈ l, x.ok w) {x : Ac} (hx : x.ok w) :
    Calls Try.prog 5 #[.slice A n c, .slice D m dc, x.val] w fun e w' => e = .returned (.bool true) ∧ Below w.heap.size w w' := by
  have hmm := hl.len
  obtain ⟨xd, xa, xn, xA, xk, xc, xb⟩ := x
  have b1 := Blk.new w 41 #[.int .i64 xd, .int .i64 xa, .int .i64 xn, .slice xA xk xc]
  have hb1 := (Below.refl w.heap.size w).alloc (Nat.le_refl _) (.cells #[.int .i64 xd, .int .i64 xa, .int .i64 xn, .slice xA xk xc] 41)
  show Calls Try.prog _ #[.slice A n c, .slice D m dc, .agg #[.int .i64 xd, .int .i64 xa, .int .i64 xn, .slice xA xk xc]] w _
  go_enter Try.func5, Try.ntmps5
  go_upto_region 1 with fail
  generalize w.alloc (.cells #[.int .i64 xd, .int .i64 xa, .int .i64 xn, .slice xA xk xc] 41) = w1 at b1 hb1 ⊢
  have hgg0 : w.heap.size < w1.heap.size := b1.lt
  replace h := h.keep hb1
  replace hl := hl.keep hb1
  replace hlo : ∀ x ∈ l, x.ok w1 := fun x hx => (hlo x hx).keep hb1
  replace hx := hx.keep hb1
  obtain ⟨-, hxa, -, hxs⟩ := hx
  simp only at hxa hxs
  have hxl := hxs.2
  go_wp2_with fail
  refine (newM_any h hok).mono ?_
  rintro e w2 ⟨rfl, ⟨A1, c1, PQ, hm2⟩, hb2⟩
  go_wp2_with fail
  refine (newRef_any (h.keep hb2) hok).mono ?_
  rintro e w3 ⟨rfl, hr3, hb3⟩
  have hN := hm2.mbd
  have hm3 := hm2.keep hb3
  have hB3 := hb2.trans (hb3.mono hb2.size)
  have hNB := hb2.size
  clear h hok hm2 hb3 hb2
  generalize w2.heap.size = N at hN hr3 hNB ⊢
  generalize L.take 4 = Ss at hN hm3 hr3
  generalize Ss.map z0 = Bs at hm3 hr3
  generalize hgw1 : w1.heap.size = g at hm3 hN hB3 hNB hgg0 ⊢
  generalize hgw : w.heap.size = gw at b1 hgg0 hb1 ⊢
  have hgg : gw < g := hgg0
  clear hgg0
  have fin : ∀ {w'}, Below g w1 w' → Below gw w w' := fun hh => hb1.trans (hh.mono (by omega))
  go_wp2_with fail
  refine (works_any _).mono ?_
  rintro e w4 ⟨rfl, hb4⟩
  have hm4 := hm3.keep hb4
  have hr4 := hr3.keep hb4
  have hB4 := hB3.trans (hb4.mono (hgw1 ▸ hB3.size))
  have b4 := b1.keep (hgw1.symm ▸ hB4)
  have c43 : w4.cell? ⟨gw, 3, none⟩ = some (.slice xA xk xc) := b4.cell 3
  by_cases h1000 : xk ≤ 1000
  case' neg =>
    have h1000' : (1000 : Int) < (xk : Int) := by omega
    clear h1000
    go_wp2_with fail
    refine (works_any _).mono ?_
    rintro e w5 ⟨rfl, hb5⟩
    go_wp2_with fail
    go_ret
    exact ⟨rfl, by first | exact fin (hB4.trans (hb5.mono (hgw1 ▸ hB4.size))) | (rw [hgw]; exact fin (hB4.trans (hb5.mono (hgw1 ▸ hB4.size))))⟩
  have h1000' : ¬ (1000 : Int) < (xk : Int) := by omega
  go_wp2_with fail
  go_loopw [9] (fun i wr => ∃ (k : Nat) (Bk : List (List UInt8)), k ≤ m ∧ k ≤ 40 ∧ i = .int .i64 (k : Int) ∧ MemX wr g g A1 c1 PQ Ss Bk ∧ RefX wr N N Ss Bk ∧ Fr (fun j => g ≤ j) w1 wr) (fun i _ => 40 - (intOf i).toNat)
  case atStart => exact ⟨0, Bs, by omega, by omega, rfl, hm4, hr4, Fr.of_below (by rw [hgw1]; exact hB4) _⟩
  case round =>
    clear hm4 hr4 hB4 hm3 hr3 hB3 hb4 b4 c43
    obtain ⟨k, Bk, hk, hk40, rfl, hm, hr, hf⟩ := hrel
    have hbw : Below g w1 wr := hf.below (B := g) (fun j hj h => by have h : g ≤ j := h; omega) (by omega)
    by_cases hgo : k < m ∧ k < 40
    · obtain ⟨hg1, hg2⟩ := hgo
      have hg1' : (k : Int) < (m : Int) := by omega
      have hg2' : (k : Int) < 40 := by omega
      obtain ⟨lb, lo, rfl, hlb, e0, e1, e2, e3, hxo, hxb⟩ := ac_at hl hlo hf (fun j hj h => by have h : g ≤ j := h; omega) hg1
      have hlb2 : lb < wr.heap.size := by have := hf.size; omega
      rw [hgw1] at hxb
      have hval : (atD ac0 l k).val = .agg #[.int .i64 (atD ac0 l k).d, .int .i64 (atD ac0 l k).a, .int .i64 (atD ac0 l k).n, .slice (atD ac0 l k).A (atD ac0 l k).k (atD ac0 l k).c] := rfl
      generalize atD ac0 l k = y at e0 e1 e2 e3 hxo hxb hval
      have HV := Lib.hid hval
      clear hval
      by_cases hy1000 : y.k ≤ 1000
      · have hy1000' : ¬ (1000 : Int) < (y.k : Int) := by omega
        go_wp2_with fail
        rw [← HV.out]
        refine (done_any hm hr hN hxo hxb).mono ?_
        rintro e w6 ⟨rfl, hm6, hr6, f6⟩
        have hQ := hm.le
        have hf6 : Fr (fun j => g ≤ j) w1 w6 := hf.trans (f6.mono (fun j _ hj => by rcases hj with hj | hj; exact hQ j hj; show g ≤ j; omega))
        clear hm hr f6 hf e0 e1 e2 e3 hxo
        go_wp2_with fail
        exact ⟨⟨k + 1, _, by omega, by omega, by go_num, hm6, hr6, hf6⟩, by simp [intOf]; omega⟩
      · have hy1000' : (1000 : Int) < (y.k : Int) := by omega
        clear hy1000
        go_wp2_with fail
        refine (works_any _).mono ?_
        rintro e w6 ⟨rfl, hb6⟩
        go_wp2_with fail
        go_ret
        exact ⟨rfl, by first | exact fin (hbw.trans (hb6.mono (hgw1 ▸ hbw.size))) | (rw [hgw]; exact fin (hbw.trans (hb6.mono (hgw1 ▸ hbw.size))))⟩
    · have hend : (((k : Int) < (m : Int)) ∧ ¬ (k : Int) < 40) ∨ ¬ (k : Int) < (m : Int) := by
        by_cases hkm : k < m
        · exact .inl ⟨by omega, by omega⟩
        · exact .inr (by omega)
      clear hgo
      have bk := b1.fr hf (by show ¬ g ≤ gw; omega)
      have c1 : wr.cell? ⟨gw, 1, none⟩ = some (.int .i64 xa) := bk.cell 1
      have c3 : wr.cell? ⟨gw, 3, none⟩ = some (.slice xA xk xc) := bk.cell 3
      have hxsr := hxs.fr hf (fun b o hp e hj => by have := hxs.blk_lt b o hp e; have hj : g ≤ b := hj; omega)
      have hki : i64 (xk : Int) := by unfold i64; omega
      rcases hend with ⟨q1, q2⟩ | q1
      all_goals
        go_wp2_with fail
        refine (findR_any hr (ww := true) hxa hki).mono ?_
        rintro e w5 ⟨rfl, rfl⟩
        go_wp2_with fail
        refine (store_any hm hxa hxsr).mono ?_
        rintro e w6 ⟨rfl, hm6, f6⟩
        have hr6 := hr.fr f6 hN.qs
        obtain ⟨A2, c2, -, -, hBl, hS4⟩ := hr.head
        have hQB := hm.le
        have hb6 : Below g wr w6 := f6.below (B := g) (fun j hj h => by have := hQB j h; omega) (by have := hbw.size; omega)
        have hB6 := hbw.trans hb6
        have b6 := bk.fr f6 (fun h => by have := hQB _ h; omega)
        have hxs6 := hxsr.fr f6 (fun b o hp e h => by have := hxs.blk_lt b o hp e; have := hQB _ h; omega)
        have h256 : ∀ j, lnB Bk j ≤ 256 := fun j => by
          by_cases hj : j < Ss.length
          · obtain ⟨_, _, _, _, _, _, h1, _⟩ := hr.opened hj
            exact h1
          · unfold lnB atD
            rw [List.getD_eq_getElem?_getD, List.getElem?_eq_none (by omega)]
            simp
        have hS2 := storeR_is Ss Bk xa xb
        have hAT := fun k i hi => storeR_at (Ss := Ss) (a := xa) (b := xb) hBl (k := k) (i := i) hi
        have hLN := storeR_len (Ss := Ss) hBl xa xb
        have hLD := loadR_back (Ss := Ss) (a := xa) (b := xb) hBl
        have hj1 := fdI_rng (Ss := Ss) (Bs := Bk) (a := xa) (n := xk) (wr := true)
        obtain ⟨hf1, hf2⟩ := frI_rng (Ss := Ss) (a := xa) (n := xk) (wr := true) h256
        rw [hxl] at hS2 hAT hLD
        have hSI := isSome_fdI (fdF Ss Bk xa xk true)
        rw [← hS2] at hSI
        clear hS2 hm hr hxs hxsr bk f6 hf hbw hl hlo b1 c1 c3
        generalize storeR Ss Bk xa xb = R at hm6 hAT hLN hLD hSI ⊢
        generalize hI1 : fdI (fdF Ss Bk xa xk true) = jI at hAT hLD hj1 hSI ⊢
        generalize frI Ss xa (fdF Ss Bk xa xk true) = fI at hAT hf1 hf2 ⊢
        obtain ⟨B4, is⟩ := R
        simp only at hm6 hAT hLN hLD hSI ⊢
        have HAT := Lib.hid hAT
        have HLD := Lib.hid hLD
        have HI1 := Lib.hid hI1
        clear hAT hLD hI1
        cases is
        all_goals
          have hSI' := hSI.symm
          clear hSI
          go_wp2_with fail
          go_loopw [12] (fun i W => ∃ k2 : Nat, k2 ≤ Ss.length ∧ i = .int .i64 (k2 : Int) ∧ Below w6.heap.size w6 W) (fun i _ => Ss.length - (intOf i).toNat)
          case atStart => exact ⟨0, by omega, rfl, Below.refl _ _⟩
          case round =>
            obtain ⟨k2, hk2, rfl, hbw2⟩ := hrel
            have hm7 := hm6.keep hbw2
            have hr7 := hr6.keep hbw2
            have b7 := b6.keep hbw2
            have hxs7 := hxs6.keep hbw2
            by_cases hlt : k2 < Ss.length
            · obtain ⟨ob, c3, X, r1, x0, hs, hx256, -, -, hob, hrl, -, -⟩ := hr7.opened hlt
              have hlt' : (k2 : Int) < (Ss.length : Int) := by omega
              have hXl := hs.2
              have hB4l : B4.length = Ss.length := hm7.2.2.1
              have hby : bytesR B4 (k2 : Int) = atD [] B4 k2 := by unfold bytesR; rw [if_neg (by omega), Int.toNat_natCast]
              have hln4 : (atD [] B4 k2).length = X.n := (hLN k2).trans hXl
              have HATk := fun i (hi : i < X.n) => HAT.out k2 i (by unfold lnB; omega)
              go_wp2_with fail
              refine (bytes_any hm7 (k := (k2 : Int)) (by unfold i64; omega)).mono ?_
              rintro e w8 ⟨v8, rfl, hown8, hb8⟩
              rw [hby, hln4] at hown8
              obtain ⟨V, vc, rfl, hsV, -⟩ := SlB.of_own hown8
              have r18 := ((bcell hb8).1 _ 1 hrl).trans r1
              have x08 := ((bcell hb8).1 _ k2 hob).trans x0
              have hs8 := hs.keep hb8
              have c83 : w8.cell? ⟨gw, 3, none⟩ = some (.slice xA xk xc) := (b7.keep hb8).cell 3
              have hxs8 := hxs7.keep hb8
              have hb28 := hbw2.trans (hb8.mono hbw2.size)
              generalize atD [] B4 k2 = l4 at hsV HATk
              generalize atD [] Bk k2 = lk at hs8 HATk hs hXl hx256
              clear hown8 hb8 r1 x0 hs hm7 hr7 b7 hxs7 hby hln4
              go_wp2_with fail
              obtain ⟨wo8, rfl⟩ : ∃ w9 : World, w9 = w8 := ⟨_, rfl⟩
              go_loopw [14] (fun i W => ∃ i3 q : Nat, i3 ≤ X.n ∧ i = .int .i64 (i3 : Int) ∧ W = wo8.drewN q) (fun i _ => X.n - (intOf i).toNat)
              case atStart => exact ⟨0, 0, by omega, rfl, rfl⟩
              case round =>
                obtain ⟨i3, q, hi3, rfl, rfl⟩ := hrel
                by_cases hil : i3 < X.n
                · have hil' : (i3 : Int) < (X.n : Int) := by omega
                  obtain ⟨vb, vo, rfl, -, cv⟩ := hsV.at_ hil
                  obtain ⟨hxx, cx⟩ : ∃ (hxx : ∃ b o, X.A = some ⟨b, o, none⟩ ∧ wo8.cell? ⟨b, o + i3, none⟩ = some (.int .u8 ((atB lk i3).toNat : Int))), True := ⟨by
                    obtain ⟨b, o, e, _, hc⟩ := hs8.at_ hil
                    exact ⟨b, o, e, hc⟩, trivial⟩
                  obtain ⟨xb2, xo2, eX, cx2⟩ := hxx
                  obtain ⟨hin, hout⟩ := HATk i3 hil
                  rw [eX] at x08
                  clear cx
                  by_cases hA : (k2 : Int) = jI
                  · have hA' : ((k2 : Int) == jI) = true := by simpa using hA
                    by_cases hC : fI ≤ (i3 : Int)
                    · have hC' : decide (fI ≤ (i3 : Int)) = true := by simpa using hC
                      by_cases hD : (i3 : Int) < fI + (xk : Int)
                      · have hD' : decide ((i3 : Int) < fI + (xk : Int)) = true := by simpa using hD
                        obtain ⟨qq, hq, hqk, heq⟩ := hin ⟨hA, hC, hD⟩
                        obtain ⟨db, do_, rfl, -, cd⟩ := hxs8.at_ (k := qq) (by omega)
                        rw [heq] at cv
                        have hqk' : (qq : Int) < (xk : Int) := by omega
                        clear hin hout hA hC hD HATk
                        go_wp2_with (go_quiet (fail))
                        exact ⟨⟨i3 + 1, _, by omega, by go_num, rfl⟩, by simp [intOf]; omega⟩
                      · have hD' : decide ((i3 : Int) < fI + (xk : Int)) = false := by simpa using hD
                        have heq := hout (fun hh => hD hh.2.2)
                        rw [heq] at cv
                        clear hin hout hA hC hD HATk
                        go_wp2_with (go_quiet (fail))
                        exact ⟨⟨i3 + 1, _, by omega, by go_num, rfl⟩, by simp [intOf]; omega⟩
                    · have hC' : decide (fI ≤ (i3 : Int)) = false := by simpa using hC
                      have heq := hout (fun hh => hC hh.2.1)
                      rw [heq] at cv
                      clear hin hout hA hC HATk
                      go_wp2_with (go_quiet (fail))
                      exact ⟨⟨i3 + 1, _, by omega, by go_num, rfl⟩, by simp [intOf]; omega⟩
                  · have hA' : ((k2 : Int) == jI) = false := by simpa using hA
                    have heq := hout (fun hh => hA hh.1)
                    rw [heq] at cv
                    clear hin hout hA HATk
                    go_wp2_with (go_quiet (fail))
                    exact ⟨⟨i3 + 1, _, by omega, by go_num, rfl⟩, by simp [intOf]; omega⟩
                · obtain rfl : i3 = X.n := by omega
                  have hbf := below_drewN hb28 q
                  clear hil hi3 HATk
                  go_wp2_with fail
                  exact ⟨⟨k2 + 1, by omega, by go_num, hbf⟩, by simp [intOf]; omega⟩
            · obtain rfl : k2 = Ss.length := by omega
              obtain ⟨A5, c5, r1, hrl, -, -⟩ := hr7.head
              have c71 := b7.cell 1
              have c73 := b7.cell 3
              simp only [List.getElem?_toArray, List.getElem?_cons_succ, List.getElem?_cons_zero] at c71 c73
              clear hlt hk2 HAT
              go_wp2_with fail
              refine (findR_any hr7 (ww := false) hxa hki).mono ?_
              rintro e w9 ⟨rfl, rfl⟩
              have HLDi := HLD.out
              generalize fdI (fdF Ss Bk xa xk false) = i2 at HLDi ⊢
              generalize frI Ss xa (fdF Ss Bk xa xk false) = f2
              clear HLD
              go_wp2_with fail
              refine (load_any hm7 hxa hki).mono ?_
              rintro e w9 ⟨v9, rfl, hown9, hb9⟩
              have hb29 := hbw2.trans (hb9.mono hbw2.size)
              have hB9 : Below g w1 w9 := hB6.trans (hb29.mono (by have := hB6.size; omega))
              have c93 : w9.cell? ⟨gw, 3, none⟩ = some (.slice xA xk xc) := (b7.keep hb9).cell 3
              have hcx := bytes_str (hxs7.keep hb9)
              by_cases hneg : jI < 0
              · have hneg' : decide (jI < 0) = true := by simpa using hneg
                clear HLDi hown9 hcx hneg
                go_wp2_with fail
                refine (works_any _).mono ?_
                rintro e w10 ⟨rfl, hb10⟩
                go_wp2_with fail
                go_ret
                exact ⟨rfl, by first | exact fin (hB9.trans (hb10.mono (hgw1 ▸ hB9.size))) | (rw [hgw]; exact fin (hB9.trans (hb10.mono (hgw1 ▸ hB9.size))))⟩
              · have hneg' : decide (jI < 0) = false := by simpa using hneg
                by_cases hi2 : i2 = jI
                · have hi2' : (i2 != jI) = false := by simpa using hi2
                  have hR := HLDi (by omega) hi2
                  rw [hR] at hown9 ⊢
                  simp only at hown9 ⊢
                  rw [hxl] at hown9
                  obtain ⟨V9, k9, rfl, hs9, -⟩ := SlB.of_own hown9
                  have hc9 := bytes_str hs9
                  clear HLDi hown9 hR hs9 hi2 hneg
                  go_wp2_with fail
                  refine (works_any _).mono ?_
                  rintro e w10 ⟨rfl, hb10⟩
                  go_wp2_with fail
                  go_ret
                  exact ⟨rfl, by first | exact fin (hB9.trans (hb10.mono (hgw1 ▸ hB9.size))) | (rw [hgw]; exact fin (hB9.trans (hb10.mono (hgw1 ▸ hB9.size))))⟩
                · have hi2' : (i2 != jI) = true := by simpa using hi2
                  clear HLDi hown9 hcx hi2 hneg
                  go_wp2_with fail
                  refine (works_any _).mono ?_
                  rintro e w10 ⟨rfl, hb10⟩
                  go_wp2_with fail
                  go_ret
                  exact ⟨rfl, by first | exact fin (hB9.trans (hb10.mono (hgw1 ▸ hB9.size))) | (rw [hgw]; exact fin (hB9.trans (hb10.mono (hgw1 ▸ hB9.size))))⟩
end Go.Proofs.Ytpgglefimdllbaa
