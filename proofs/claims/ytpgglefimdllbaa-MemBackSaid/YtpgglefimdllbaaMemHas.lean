/- The walks of package mem: has, the closure of 'of', IndexFunc, find, of. -/
import Derived.Test.YtpgglefimdllbaaMixC
import Derived.Test.YtpgglefimdllbaaGen
import Derived.Test.YtpgglefimdllbaaCut
import Derived.Test.YtpgglefimdllbaaArgs2
import Derived.Deep.DeepCutAuto
namespace Go.Proofs.Ytpgglefimdllbaa
open Go.RowKit
/-- a region as it was given -/
structure Sg where
  (ba sz : Int) (wr : Bool)
def Sg.ok (s : Sg) : Prop := i64 s.ba ∧ i64 s.sz
def sg0 : Sg := ⟨0, 0, false⟩
/-- has a region of len bytes the n bytes at a? -/
def hasB (s : Sg) (len : Nat) (a n : Int) : Bool := decide (0 ≤ n) && decide (s.ba ≤ a) && decide (a - s.ba ≤ len) && decide (n ≤ len - (a - s.ba))
def ofB (s : Sg) (len : Nat) (a n : Int) (w : Bool) : Bool := hasB s len a n && (s.wr || !w)
theorem hasB_iff {s : Sg} {len : Nat} {a n : Int} : hasB s len a n = true ↔ 0 ≤ n ∧ s.ba ≤ a ∧ a - s.ba ≤ len ∧ n ≤ len - (a - s.ba) := by
  unfold hasB
  simp [and_assoc]
theorem hasB_no {s : Sg} {len : Nat} {a n : Int} (h : ¬ (0 ≤ n ∧ s.ba ≤ a ∧ a - s.ba ≤ len ∧ n ≤ len - (a - s.ba))) : hasB s len a n = false := by
  cases hh : hasB s len a n with
  | false => rfl
  | true => exact absurd (hasB_iff.1 hh) h
set_option maxRecDepth 100000 in
set_option maxHeartbeats 4000000 in
theorem has_any {w : World} {p : Nat} {s : Sg} {A : Option Addr} {len c : Nat} (hb : Blk w p 62 #[.int .i64 s.ba, .int .i64 s.sz, .bool s.wr, .slice A len c]) (hs : s.ok) (hl : len ≤ 100000) {a n : Int} (ha : i64 a) (hn : i64 n) :
    Calls Try.prog 29 #[.pointer (some ⟨p, 0, none⟩), .int .i64 a, .int .i64 n] w fun e w' => e = .returned (.bool (hasB s len a n)) ∧ ∃ k, w' = w.drewN k := by
  have HB : Hid (hasB s len a n = true ↔ 0 ≤ n ∧ s.ba ≤ a ∧ a - s.ba ≤ len ∧ n ≤ len - (a - s.ba)) := hasB_iff
  have HN : Hid (¬ (0 ≤ n ∧ s.ba ≤ a ∧ a - s.ba ≤ len ∧ n ≤ len - (a - s.ba)) → hasB s len a n = false) := hasB_no
  generalize hasB s len a n = R at HB HN ⊢
  obtain ⟨ba, sz, wr⟩ := s
  obtain ⟨hs1, hs2⟩ := hs
  simp only at hs1 hs2
  unfold i64 at ha hn hs1 hs2
  simp only [Hid] at HB HN
  have c0 : w.cell? ⟨p, 0, none⟩ = some (.int .i64 ba) := hb.cell 0
  have c3 : w.cell? ⟨p, 3, none⟩ = some (.slice A len c) := hb.cell 3
  go_enter Try.func29, Try.ntmps29
  go_wp2_with fail
  by_cases h0 : 0 ≤ n
  · have h0' : decide ((0 : Int) ≤ n) = true := by simpa using h0
    by_cases h1 : ba ≤ a
    · have h1' : decide (ba ≤ a) = true := by simpa using h1
      by_cases h2 : a - ba ≤ 9223372036854775807
      · have hw : IntKind.i64.wrap (a - ba) = a - ba := IntWalk.i64_in _ (by omega)
        have h2' : decide (0 ≤ a - ba) = true := by simp; omega
        have h2'' : (0 : Int) ≤ a - ba := by omega
        by_cases h3 : a - ba ≤ (len : Int)
        · have h3' : decide (a - ba ≤ (len : Int)) = true := by simpa using h3
          have hw2 : IntKind.i64.wrap ((len : Int) - (a - ba)) = (len : Int) - (a - ba) := IntWalk.i64_in _ (by omega)
          by_cases h4 : n ≤ (len : Int) - (a - ba)
          · have h4' : decide (n ≤ (len : Int) - (a - ba)) = true := by simpa using h4
            have hR := HB.2 ⟨h0, h1, h3, h4⟩
            subst hR
            clear HB HN
            go_wp2_with (go_quiet (fail))
            go_ret
            exact ⟨rfl, _, rfl⟩
          · have h4' : decide (n ≤ (len : Int) - (a - ba)) = false := by simp; omega
            have hR := HN (fun h => h4 h.2.2.2)
            subst hR
            clear HB HN
            go_wp2_with (go_quiet (fail))
            go_ret
            exact ⟨rfl, _, rfl⟩
        · have h3' : decide (a - ba ≤ (len : Int)) = false := by simp; omega
          have hR := HN (fun h => h3 h.2.2.1)
          subst hR
          clear HB HN
          go_wp2_with (go_quiet (fail))
          go_ret
          exact ⟨rfl, _, rfl⟩
      · have hw : IntKind.i64.wrap (a - ba) < 0 := by rw [IntKind.wrap_i64]; omega
        have h2' : decide (0 ≤ IntKind.i64.wrap (a - ba)) = false := by simp; omega
        have h3' : decide (0 ≤ wrap64 (a - ba)) = false := by rw [← IntWalk.i64_left]; exact h2'
        clear hw
        have hR := HN (fun h => by omega)
        subst hR
        clear HB HN
        go_wp2_with (go_quiet (fail))
        go_ret
        exact ⟨rfl, _, rfl⟩
    · have h1' : decide (ba ≤ a) = false := by simp; omega
      have hR := HN (fun h => h1 h.2.1)
      subst hR
      clear HB HN
      go_wp2_with (go_quiet (fail))
      go_ret
      exact ⟨rfl, _, rfl⟩
  · have h0' : decide ((0 : Int) ≤ n) = false := by simp; omega
    have hR := HN (fun h => h0 h.1)
    subst hR
    clear HB HN
    go_wp2_with (go_quiet (fail))
    go_ret
    exact ⟨rfl, _, rfl⟩
end Go.Proofs.Ytpgglefimdllbaa
