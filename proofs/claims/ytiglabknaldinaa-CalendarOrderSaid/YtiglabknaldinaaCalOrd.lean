/- CalendarOrder, the plain law: of a configuration that may be, there is a page for each frame, and they stand in order. No program here. -/
import Derived.Test.YtiglabknaldinaaMayH
import Derived.Test.YtiglabknaldinaaCalSlots
namespace Go.Proofs.Ytiglabknaldinaa
open Go.RowKit
/-- where the page ahead of the k-th ends. -/
def endP (e : Int) (P : List Pg) : Nat → Int
  | 0 => e
  | k + 1 => (atD Pg0 P k).end_
/-- what is known of a page behind one that ends at e. -/
structure PgG (x : Cf) (e : Int) (q : Pg) : Prop where
  a : q.at_ = e
  m0 : 0 ≤ q.mode
  m1 : q.mode < x.modes.l.length
  l0 : 0 ≤ q.level
  l1 : q.level ≤ x.shed.down.l.length
  z : q.end_ = q.at_ + (atD Md0 x.modes.l q.mode.toNat).frame
  e0 : 0 ≤ q.at_
  e1 : q.at_ + 1000000000 ≤ 1152921504606846976
theorem stepS_good {x : Cf} (hg : CfGood x) {p : Pg} (f : Fm) (hm : 0 ≤ p.mode ∧ p.mode < x.modes.l.length) (hl : 0 ≤ p.level ∧ p.level ≤ x.shed.down.l.length) (he : 0 ≤ p.end_) (hc : p.end_ + 1000000000 ≤ 1152921504606846976) :
    ∃ q, stepS x p f = some q ∧ PgG x p.end_ q ∧ q.end_ ≤ p.end_ + 1000000000 ∧ 0 ≤ q.end_ := by
  have ht : 0 ≤ turnS x.modes.l.length p.mode f.mode ∧ turnS x.modes.l.length p.mode f.mode < x.modes.l.length := by
    unfold turnS
    split
    · assumption
    · exact hm
  have hd := nextS_bd x.shed.down.l x.shed.up.l p.level f.reading hl
  unfold stepS
  simp only
  generalize turnS x.modes.l.length p.mode f.mode = m at ht ⊢
  obtain ⟨g1, g2, -, -⟩ := hg.2.2 m.toNat (by omega)
  rw [if_neg (by omega), if_neg (by omega)]
  refine ⟨_, rfl, ⟨rfl, ht.1, ht.2, hd.1, hd.2, rfl, he, hc⟩, ?_, ?_⟩ <;> simp only <;> omega
theorem pages_good {x : Cf} (hg : CfGood x) : ∀ (l : List Fm) (p : Pg), 0 ≤ p.mode ∧ p.mode < x.modes.l.length → 0 ≤ p.level ∧ p.level ≤ x.shed.down.l.length → 0 ≤ p.end_ → p.end_ + l.length * 1000000000 ≤ 1152921504606846976 →
    (pagesS x p l).length = l.length ∧ ∀ k, k < l.length → PgG x (endP p.end_ (pagesS x p l) k) (atD Pg0 (pagesS x p l) k)
  | [], _, _, _, _, _ => ⟨rfl, fun k hk => absurd hk (Nat.not_lt_zero k)⟩
  | f :: fs, p, hm, hl, he, hc => by
    rw [List.length_cons, Int.natCast_add] at hc
    obtain ⟨q, hq, hG, hz, hz0⟩ := stepS_good hg f hm hl he (by omega)
    obtain ⟨h1, h2⟩ := pages_good hg fs q ⟨hG.m0, hG.m1⟩ ⟨hG.l0, hG.l1⟩ hz0 (by omega)
    have hP : pagesS x p (f :: fs) = q :: pagesS x q fs := by rw [pagesS, hq]
    rw [hP]
    refine ⟨by rw [List.length_cons, List.length_cons, h1], fun k hk => ?_⟩
    cases k with
    | zero =>
      rw [atD_lt (by rw [List.length_cons]; omega)]
      exact hG
    | succ k =>
      have hk' : k < fs.length := by rw [List.length_cons] at hk; omega
      have := h2 k hk'
      have hs : ∀ i, i < fs.length → atD Pg0 (q :: pagesS x q fs) (i + 1) = atD Pg0 (pagesS x q fs) i := fun i hi => by
        rw [atD_lt (by rw [List.length_cons]; omega), atD_lt (by omega)]
        rfl
      rw [hs k hk']
      cases k with
      | zero =>
        refine cast ?_ this
        congr 1
      | succ k =>
        refine cast ?_ this
        congr 1
/-- a slot of a page, by its window. -/
theorem slot_good {F : Int} {np : Nat} {l : List Wn} {j : Nat} (hw : WinG F np l j) (h0 : 0 ≤ endW l j) {a : Int} (ha : 0 ≤ a) (ha1 : a + 1000000000 ≤ 1152921504606846976) (hF : F ≤ 1000000000) :
    wrap64 (a + (atD Wn0 l j).start) = a + (atD Wn0 l j).start ∧ wrap64 (a + (atD Wn0 l j).start + (atD Wn0 l j).len) = a + endW l (j + 1) ∧ a + endW l j ≤ a + (atD Wn0 l j).start ∧ a + (atD Wn0 l j).start < a + endW l (j + 1) ∧ a ≤ a + (atD Wn0 l j).start ∧ a + endW l (j + 1) ≤ a + F ∧ 0 ≤ endW l (j + 1) := by
  obtain ⟨h1, h2, h3, h4, -, -⟩ := hw
  have he : endW l (j + 1) = (atD Wn0 l j).start + (atD Wn0 l j).len := rfl
  rw [he]
  refine ⟨by unfold wrap64; omega, by unfold wrap64; omega, by omega, by omega, by omega, by omega, by omega⟩
end Go.Proofs.Ytiglabknaldinaa
