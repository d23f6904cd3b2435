/- The plain law of calendar: pages, slots, boundaries. No program here. -/
import Derived.Test.YtiglabknaldinaaShedSpec
import Derived.Test.YtiglabknaldinaaFrm
namespace Go.Proofs.Ytiglabknaldinaa
open Go.RowKit
structure Pg where
  at_ : Int
  end_ : Int
  mode : Int
  level : Int
def Pg.f (p : Pg) : List Value := [.int .i64 p.at_, .int .i64 p.end_, .int .i64 p.mode, .int .i64 p.level]
def Pg.v (p : Pg) : Value := .agg #[.int .i64 p.at_, .int .i64 p.end_, .int .i64 p.mode, .int .i64 p.level]
def Pg0 : Pg := ⟨0, 0, 0, 0⟩
def turnS (n : Nat) (mode want : Int) : Int := if 0 ≤ want ∧ want < n then want else mode
/-- the page behind p, if there is one. -/
def stepS (x : Cf) (p : Pg) (f : Fm) : Option Pg :=
  let m := turnS x.modes.l.length p.mode f.mode
  if m < 0 ∨ (x.modes.l.length : Int) ≤ m then none else
  let long := (atD Md0 x.modes.l m.toNat).frame
  if long < 1 ∨ 1152921504606846976 - p.end_ < long then none else
  some ⟨p.end_, p.end_ + long, m, nextS x.shed.down.l x.shed.up.l p.level f.reading⟩
def pagesS (x : Cf) : Pg → List Fm → List Pg
  | _, [] => []
  | p, f :: fs => match stepS x p f with
    | none => []
    | some q => q :: pagesS x q fs
/-- what is known of a page that was made. -/
structure PgOk (x : Cf) (p : Pg) : Prop where
  e : 0 ≤ p.end_ ∧ p.end_ ≤ 1152921504606846976
  a : 0 ≤ p.at_ ∧ p.at_ ≤ 1152921504606846976
  m : 0 ≤ p.mode ∧ i64 p.mode
  l : i64 p.level
theorem pg0_ok (x : Cf) : PgOk x Pg0 := ⟨by simp [Pg0], by simp [Pg0], by simp [Pg0, i64], by simp [Pg0, i64]⟩
theorem stepS_some {x : Cf} {p q : Pg} {f : Fm} (h : stepS x p f = some q) :
    q.at_ = p.end_ ∧ q.end_ = p.end_ + (atD Md0 x.modes.l q.mode.toNat).frame ∧ q.mode = turnS x.modes.l.length p.mode f.mode ∧ q.level = nextS x.shed.down.l x.shed.up.l p.level f.reading ∧
    0 ≤ q.mode ∧ q.mode < x.modes.l.length ∧ 1 ≤ (atD Md0 x.modes.l q.mode.toNat).frame ∧ (atD Md0 x.modes.l q.mode.toNat).frame ≤ 1152921504606846976 - p.end_ := by
  unfold stepS at h
  simp only at h
  split at h
  · cases h
  · split at h
    · cases h
    · cases h
      refine ⟨rfl, rfl, rfl, rfl, ?_, ?_, ?_, ?_⟩ <;> simp only [] <;> omega
theorem stepS_ok {x : Cf} {p q : Pg} {f : Fm} (hp : PgOk x p) (hd : x.shed.down.l.length ≤ 9223372036854775807) (hm : x.modes.l.length ≤ 9223372036854775807) (h : stepS x p f = some q) : PgOk x q := by
  obtain ⟨h1, h2, h3, h4, h5, h6, h7, h8⟩ := stepS_some h
  obtain ⟨e, a, m, l⟩ := hp
  refine ⟨by omega, by omega, ⟨h5, by unfold i64; omega⟩, ?_⟩
  rw [h4]
  exact nextS_rng _ _ _ _ hd l
/-- a window at its time -/
structure St where
  part : Int
  fr : Int
  to : Int
def St.f (s : St) : List Value := [.int .i64 s.part, .int .i64 s.fr, .int .i64 s.to]
def St.v (s : St) : Value := .agg #[.int .i64 s.part, .int .i64 s.fr, .int .i64 s.to]
def St0 : St := ⟨0, 0, 0⟩
def slotS (at_ : Int) (w : Wn) : St := ⟨w.part, wrap64 (at_ + w.start), wrap64 (wrap64 (at_ + w.start) + w.len)⟩
def slotsS (m : Md) (at_ : Int) : List St := m.wins.l.map (slotS at_)
/-- all windows of all pages -/
def allS (x : Cf) (ps : List Pg) : List St := ps.flatMap fun p => slotsS (atD Md0 x.modes.l p.mode.toNat) p.at_
/-- a boundary -/
structure Bd where
  due : Int
  at_ : Int
  part : Int
def Bd.f (b : Bd) : List Value := [.int .i64 b.due, .int .i64 b.at_, .int .i64 b.part]
def Bd0 : Bd := ⟨0, 0, 0⟩
def bdS (ss : List St) : List Bd := ss.flatMap fun s => [⟨s.fr, s.fr, s.part⟩, ⟨s.to, s.to, -1⟩]
end Go.Proofs.Ytiglabknaldinaa
