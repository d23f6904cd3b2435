/- The document's memory: its state, and Find walked. -/
import Derived.Test.YtpgglefimdllbaaMemNew
namespace Go.Proofs.Ytpgglefimdllbaa
open Go.RowKit
/-- a slice as it lies in a cell -/
structure Xs where
  (A : Option Addr) (n c : Nat)
def xs0 : Xs := ⟨none, 0, 0⟩
/-- the row of the regions' bytes at block ob -/
def RowX (w : World) (N ob : Nat) (cur : Array Value) (XS : List Xs) (Bs : List (List UInt8)) (n : Nat) : Prop :=
  ∀ i, i < n → cur[i]? = some (.slice (atD xs0 XS i).A (atD xs0 XS i).n (atD xs0 XS i).c) ∧ SlB w (atD xs0 XS i).A (atD xs0 XS i).n (atD xs0 XS i).c (atD [] Bs i) ∧ (atD [] Bs i).length ≤ 256 ∧ ∀ b o, 0 < (atD xs0 XS i).n → (atD xs0 XS i).A = some ⟨b, o, none⟩ → N ≤ b ∧ b ≠ ob
def RefX (w : World) (r N : Nat) (Ss : List Sg) (Bs : List (List UInt8)) : Prop := ∃ A1 c1 A2 c2 XS,
  Blk w r 49 #[.slice A1 Ss.length c1, .slice A2 Ss.length c2] ∧ SlG w A1 Ss.length c1 3 sgC Ss ∧ XS.length = Ss.length ∧ Bs.length = Ss.length ∧ N ≤ r ∧ Ss.length ≤ 4 ∧ (∀ s ∈ Ss, s.ok) ∧
  (∀ b o, 0 < Ss.length → A1 = some ⟨b, o, none⟩ → N ≤ b) ∧
  (0 < Ss.length → ∃ ob cur t, A2 = some ⟨ob, 0, none⟩ ∧ Blk w ob t cur ∧ N ≤ ob ∧ ob ≠ r ∧ (∀ b o, A1 = some ⟨b, o, none⟩ → b ≠ ob) ∧ RowX w N ob cur XS Bs Ss.length)
theorem RowX.keep {w w' : World} {N ob : Nat} {cur : Array Value} {XS : List Xs} {Bs : List (List UInt8)} {n : Nat} (h : RowX w N ob cur XS Bs n) (hb : Below w.heap.size w w') : RowX w' N ob cur XS Bs n := fun i hi => by
  obtain ⟨h1, h2, h3⟩ := h i hi
  exact ⟨h1, h2.keep hb, h3⟩
theorem RefX.keep {w w' : World} {r N : Nat} {Ss : List Sg} {Bs : List (List UInt8)} (h : RefX w r N Ss Bs) (hb : Below w.heap.size w w') : RefX w' r N Ss Bs := by
  obtain ⟨A1, c1, A2, c2, XS, h1, h2, h3, h4, h5, h6, h7, h8, h9⟩ := h
  refine ⟨A1, c1, A2, c2, XS, h1.keep hb, h2.keep hb, h3, h4, h5, h6, h7, h8, fun hp => ?_⟩
  obtain ⟨ob, cur, t, e, b1, b2, b3, b4, b5⟩ := h9 hp
  exact ⟨ob, cur, t, e, b1.keep hb, b2, b3, b4, b5.keep hb⟩
/-- what changes below N alone changes nothing here. -/
theorem RefX.fr {w w' : World} {r N : Nat} {Ss : List Sg} {Bs : List (List UInt8)} {S : Nat → Prop} (h : RefX w r N Ss Bs) (hb : Fr S w w') (hS : ∀ j, S j → j < N) : RefX w' r N Ss Bs := by
  obtain ⟨A1, c1, A2, c2, XS, h1, h2, h3, h4, h5, h6, h7, h8, h9⟩ := h
  refine ⟨A1, c1, A2, c2, XS, h1.fr hb (fun e => by have := hS _ e; omega), h2.fr hb (fun b o hp e hs => by have := hS _ hs; have := h8 b o hp e; omega), h3, h4, h5, h6, h7, h8, fun hp => ?_⟩
  obtain ⟨ob, cur, t, e, b1, b2, b3, b4, b5⟩ := h9 hp
  refine ⟨ob, cur, t, e, b1.fr hb (fun e => by have := hS _ e; omega), b2, b3, b4, fun i hi => ?_⟩
  obtain ⟨r1, r2, r3, r4⟩ := b5 i hi
  exact ⟨r1, r2.fr hb (fun b o hp e hs => by have := hS _ hs; have := (r4 b o hp e).1; omega), r3, r4⟩
theorem u64_diff {a b : Int} (ha : i64 a) (hb : i64 b) (h : b ≤ a) : IntKind.u64.wrap (IntKind.u64.wrap a - IntKind.u64.wrap b) = a - b := by
  unfold i64 at ha hb
  rw [IntKind.wrap_u64, IntKind.wrap_u64, IntKind.wrap_u64]
  omega
def frI (Ss : List Sg) (a : Int) (o : Option Nat) : Int := match o with
  | none => 0
  | some k => a - (atD sg0 Ss k).ba
theorem ofB_iff {s : Sg} {len : Nat} {a n : Int} {wr : Bool} : ofB s len a n wr = true ↔ (0 ≤ n ∧ s.ba ≤ a ∧ a - s.ba ≤ len ∧ n ≤ len - (a - s.ba)) ∧ (s.wr || !wr) = true := by
  unfold ofB
  rw [Bool.and_eq_true, hasB_iff]
set_option maxRecDepth 100000 in
set_option maxHeartbeats 6400000 in
theorem findR_any {w : World} {r N : Nat} {Ss : List Sg} {Bs : List (List UInt8)} (h : RefX w r N Ss Bs) {a n : Int} {ww : Bool} (ha : i64 a) (hn : i64 n) :
    Calls Try.prog 14 #[.pointer (some ⟨r, 0, none⟩), .int .i64 a, .int .i64 n, .bool ww] w fun e w' => e = .returned (.tuple #[.int .i64 (fdI (fdF Ss Bs a n ww)), .int .i64 (frI Ss a (fdF Ss Bs a n ww))]) ∧ w = w' := by
  have HS : Hid (∀ k, k < Ss.length → ofB (atD sg0 Ss k) (lnB Bs k) a n ww = true → (∀ j, j < k → ofB (atD sg0 Ss j) (lnB Bs j) a n ww = false) → fdF Ss Bs a n ww = some k) := fun k h1 h2 h3 => fdF_some h1 h2 h3
  have HN : Hid ((∀ j, j < Ss.length → ofB (atD sg0 Ss j) (lnB Bs j) a n ww = false) → fdF Ss Bs a n ww = none) := fdF_none
  generalize fdF Ss Bs a n ww = R at HS HN ⊢
  obtain ⟨A1, c1, A2, c2, XS, h1, h2, h3, h4, h5, h6, h7, h8, h9⟩ := h
  have r0 : w.cell? ⟨r, 0, none⟩ = some (.slice A1 Ss.length c1) := h1.cell 0
  have r1 : w.cell? ⟨r, 1, none⟩ = some (.slice A2 Ss.length c2) := h1.cell 1
  go_enter Try.func14, Try.ntmps14
  go_wp2_with fail
  obtain ⟨wo, rfl⟩ : ∃ wo : World, wo = w := ⟨_, rfl⟩
  go_loopw [10] (fun i wr => ∃ k : Nat, k ≤ Ss.length ∧ i = .int .i64 (k : Int) ∧ Hid (∀ j, j < k → ofB (atD sg0 Ss j) (lnB Bs j) a n ww = false) ∧ wr = wo) (fun i _ => Ss.length - (intOf i).toNat)
  case atStart => exact ⟨0, by omega, rfl, (fun j hj => by omega), rfl⟩
  case round =>
    obtain ⟨k, hk, rfl, HJ, rfl⟩ := hrel
    by_cases hlt : k < Ss.length
    · have hlt' : (k : Int) < (Ss.length : Int) := by omega
      obtain ⟨ob, cur, t, rfl, b1, b2, b3, b4, b5⟩ := h9 (by omega)
      obtain ⟨q1, q2, q3, q4⟩ := b5 k hlt
      obtain ⟨lb, lo, rfl, hlb, hlc⟩ := h2.at_ sg0 hlt
      have s0 : wr.cell? ⟨lb, lo + k * 3, none⟩ = some (.int .i64 (atD sg0 Ss k).ba) := hlc 0 _ rfl
      have s2 : wr.cell? ⟨lb, lo + k * 3 + 2, none⟩ = some (.bool (atD sg0 Ss k).wr) := hlc 2 _ rfl
      have hSk := sg_ok h7 hlt
      have q2l := q2.2
      have x0 : wr.cell? ⟨ob, k, none⟩ = some (.slice (atD xs0 XS k).A (atD xs0 XS k).n (atD xs0 XS k).c) := by rw [b1.cell k]; exact q1
      have HO : Hid (ofB (atD sg0 Ss k) (lnB Bs k) a n ww = true ↔ (0 ≤ n ∧ (atD sg0 Ss k).ba ≤ a ∧ a - (atD sg0 Ss k).ba ≤ (lnB Bs k : Nat) ∧ n ≤ (lnB Bs k : Nat) - (a - (atD sg0 Ss k).ba)) ∧ ((atD sg0 Ss k).wr || !ww) = true) := ofB_iff
      have hll : lnB Bs k = (atD xs0 XS k).n := q2l
      have HSk := Lib.hid (HS.out k hlt)
      have HFr : Hid (frI Ss a (some k) = a - (atD sg0 Ss k).ba) := rfl
      rw [hll] at HO HSk
      have HY := hll
      obtain ⟨yes, hyes⟩ : ∃ yes, yes = ofB (atD sg0 Ss k) (atD xs0 XS k).n a n ww := ⟨_, rfl⟩
      rw [← hyes] at HO HSk
      have HYes : Hid (ofB (atD sg0 Ss k) (lnB Bs k) a n ww = yes) := by unfold Hid; rw [hyes, HY]
      clear hyes HY
      generalize atD sg0 Ss k = s at s0 s2 hSk HO HFr
      generalize atD xs0 XS k = x at q1 q2 q3 q4 x0 q2l HO hll
      obtain ⟨ba, sz, sw⟩ := s
      obtain ⟨hba, -⟩ := hSk
      simp only at s0 s2 HO HFr hba
      have hxn := q2.len
      rw [q2l] at q3
      clear h1 h2 hlc hlb b5 q1 q2 q4 q2l h9 hll
      have hwx : ba ≤ a → IntKind.u64.wrap (IntKind.u64.wrap a - IntKind.u64.wrap ba) = a - ba := u64_diff ha hba
      have HW := Lib.hid hwx
      clear hwx
      obtain ⟨wo2, rfl⟩ : ∃ w2 : World, w2 = wr := ⟨_, rfl⟩
      go_wp2_with fail
      go_loopw [11] (fun i W2 => ∃ f : Nat, f ≤ x.n + 1 ∧ i = .int .i64 (f : Int) ∧ Hid (∀ g : Nat, g < f → a - ba = (g : Int) → yes = false) ∧ W2 = wo2) (fun i _ => x.n + 1 - (intOf i).toNat)
      case atStart => exact ⟨0, by omega, rfl, (fun g hg => by omega), rfl⟩
      case round =>
        obtain ⟨f, hf, rfl, HF, rfl⟩ := hrel
        by_cases hle : f ≤ x.n
        · have hle' : (f : Int) ≤ (x.n : Int) := by omega
          have hw2 : IntKind.i64.wrap ((x.n : Int) - f) = (x.n : Int) - f := IntWalk.i64_in _ (by omega)
          have hfu : IntKind.u64.wrap (f : Int) = (f : Int) := IntWalk.u64_in _ (by omega)
          by_cases hA : ba ≤ a
          · have hA' : decide (ba ≤ a) = true := by simpa using hA
            have hwr := HW.out hA
            by_cases hB : a - ba = (f : Int)
            · have hB' : ((a - ba) == (f : Int)) = true := by simpa using hB
              by_cases hC : 0 ≤ n
              · have hC' : decide ((0 : Int) ≤ n) = true := by simpa using hC
                by_cases hD : n ≤ (x.n : Int) - f
                · have hD' : decide (n ≤ (x.n : Int) - f) = true := by simpa using hD
                  by_cases hE : (sw || !ww) = true
                  · have hy : yes = true := HO.out.2 ⟨⟨hC, hA, by omega, by omega⟩, hE⟩
                    have HR := Lib.hid (HSk.out hy HJ.out)
                    have hE2 : sw = true ∨ (sw = false ∧ ww = false) := by cases sw <;> cases ww <;> simp_all
                    have HB := Lib.hid hB
                    clear HF HO HSk HS HN HJ HW HYes hy hE
                    rcases hE2 with rfl | ⟨rfl, rfl⟩
                    all_goals
                      go_wp2_with fail
                      go_ret2
                      refine ⟨?_, rfl⟩
                      rw [HR.out, HFr.out, HB.out]
                      rfl
                  · have hE2 : sw = false ∧ ww = true := by cases sw <;> cases ww <;> simp_all
                    have hy : yes = false := by
                      cases hy : yes with
                      | false => rfl
                      | true =>
                        obtain ⟨⟨h1, h2, h3, h4⟩, h5⟩ := HO.out.1 hy
                        exact absurd h5 hE
                    have HF2 : Hid (∀ g : Nat, g < f + 1 → a - ba = (g : Int) → yes = false) := fun g hg e => hy
                    clear hy
                    clear hE
                    obtain ⟨rfl, rfl⟩ := hE2
                    clear HF HO HSk HS HN HJ HW
                    go_wp2_with fail
                    exact ⟨⟨f + 1, by omega, by go_num, HF2, trivial⟩, by simp [intOf]; omega⟩
                · have hD' : decide (n ≤ (x.n : Int) - f) = false := by simpa using hD
                  have hy : yes = false := by
                    cases hy : yes with
                    | false => rfl
                    | true =>
                      obtain ⟨⟨h1, h2, h3, h4⟩, h5⟩ := HO.out.1 hy
                      omega
                  have HF2 : Hid (∀ g : Nat, g < f + 1 → a - ba = (g : Int) → yes = false) := fun g hg e => hy
                  clear hy
                  clear hD
                  clear HF HO HSk HS HN HJ HW
                  go_wp2_with fail
                  exact ⟨⟨f + 1, by omega, by go_num, HF2, trivial⟩, by simp [intOf]; omega⟩
              · have hC' : decide ((0 : Int) ≤ n) = false := by simpa using hC
                have hy : yes = false := by
                  cases hy : yes with
                  | false => rfl
                  | true =>
                    obtain ⟨⟨h1, h2, h3, h4⟩, h5⟩ := HO.out.1 hy
                    omega
                have HF2 : Hid (∀ g : Nat, g < f + 1 → a - ba = (g : Int) → yes = false) := fun g hg e => hy
                clear hy
                clear hC
                clear HF HO HSk HS HN HJ HW
                go_wp2_with fail
                exact ⟨⟨f + 1, by omega, by go_num, HF2, trivial⟩, by simp [intOf]; omega⟩
            · have hB' : ((a - ba) == (f : Int)) = false := by simpa using hB
              have HF2 : Hid (∀ g : Nat, g < f + 1 → a - ba = (g : Int) → yes = false) := fun g hg e => by
                by_cases hgf : g = f
                · exact absurd (by rw [← hgf]; exact e) hB
                · exact HF.out g (by omega) e
              clear hB
              clear HF HO HSk HS HN HJ HW
              go_wp2_with fail
              exact ⟨⟨f + 1, by omega, by go_num, HF2, trivial⟩, by simp [intOf]; omega⟩
          · have hA' : decide (ba ≤ a) = false := by simpa using hA
            have HF2 : Hid (∀ g : Nat, g < f + 1 → a - ba = (g : Int) → yes = false) := fun g hg e => by
              omega
            clear HF HO HSk HS HN HJ HW
            go_wp2_with fail
            exact ⟨⟨f + 1, by omega, by go_num, HF2, trivial⟩, by simp [intOf]; omega⟩
        · obtain rfl : f = x.n + 1 := by omega
          have hle' : ¬ (x.n : Int) + 1 ≤ (x.n : Int) := by omega
          have HJ2 : Hid (∀ j, j < k + 1 → ofB (atD sg0 Ss j) (lnB Bs j) a n ww = false) := fun j hj => by
            by_cases hjk : j = k
            · subst hjk
              rw [HYes.out]
              cases hy : yes with
              | false => rfl
              | true =>
                obtain ⟨⟨h1, h2, h3, h4⟩, _⟩ := HO.out.1 hy
                have := HF.out (a - ba).toNat (by omega) (by omega)
                rw [hy] at this
                cases this
            · exact HJ.out j (by omega)
          clear HF HO HSk HS HN HJ HW HYes hle
          go_wp2_with fail
          exact ⟨⟨k + 1, by omega, by go_num, HJ2, trivial⟩, by simp [intOf]; omega⟩
    · obtain rfl : k = Ss.length := by omega
      have HR := Lib.hid (HN.out HJ.out)
      clear HS HN HJ hlt hk h9
      go_wp2_with fail
      go_ret2
      exact ⟨by rw [HR.out]; rfl, rfl⟩
end Go.Proofs.Ytpgglefimdllbaa
