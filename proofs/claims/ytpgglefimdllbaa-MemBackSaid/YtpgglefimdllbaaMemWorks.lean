/- The walk of the law's works, and the plain law of a number put and got. -/
import Derived.Test.YtpgglefimdllbaaMemNew
namespace Go.Proofs.Ytpgglefimdllbaa
open Go.RowKit
theorem own_one (w : World) (e : TypeId) (cs : Array Value) (sz : Nat) (h : cs.size = sz) : (w.alloc (.cells cs e)).ownsRow w.heap.size e sz (.slice (some ⟨w.heap.size, 0, none⟩) 1 1) 1 cs.toList :=
  ⟨by simp [h], .inr ⟨w.heap.size, 1, cs, rfl, Nat.le_refl _, heap_alloc_new w _, Nat.le_refl _, by unfold maxLen; omega, by simp [h], by rw [Nat.one_mul]; exact List.take_of_length_le (by simp [h])⟩⟩
theorem sg_one (w : World) (s : Sg) : SlG (w.alloc (.cells #[.int .i64 s.ba, .int .i64 s.sz, .bool s.wr] 26)) (some ⟨w.heap.size, 0, none⟩) 1 1 3 sgC [s] := by
  have h := own_one w 26 #[.int .i64 s.ba, .int .i64 s.sz, .bool s.wr] 3 rfl
  obtain ⟨A, c, e, hs, -⟩ := SlG.of_own (f := sgC) (l := [s]) h (fun _ _ => rfl) rfl
  cases e
  exact hs
theorem fdF_one (s : Sg) (Bs : List (List UInt8)) (a n : Int) (wr : Bool) : fdF [s] Bs a n wr = if ofB s (lnB Bs 0) a n wr then some 0 else none := by
  unfold fdF
  simp only [List.length_cons, List.length_nil, Nat.zero_add, show List.range 1 = [0] from rfl, List.find?_cons, List.find?_nil]
  rw [show atD sg0 [s] 0 = s from rfl]
  split <;> simp_all
theorem take_splice (l b : List UInt8) (f : Nat) (h : f + b.length ≤ l.length) : ((splice l f b).drop f).take b.length = b := by
  unfold splice
  rw [List.drop_append_of_le_length (by rw [List.length_take]; omega), List.drop_of_length_le (by rw [List.length_take]; omega), List.nil_append, List.take_append_of_le_length (Nat.le_refl _), List.take_length]
/-- one region that may be written: what is put is got. -/
theorem put_got {s : Sg} (hw : s.wr = true) {l b : List UInt8} {a : Int} (h : ofB s l.length a b.length true = true) : storeR [s] [l] a b = ([splice l (a - s.ba).toNat b], true) ∧ loadR [s] [splice l (a - s.ba).toNat b] a b.length = (b, true) := by
  have h1 : fdF [s] [l] a b.length true = some 0 := by rw [fdF_one]; rw [show lnB [l] 0 = l.length from rfl, h]; rfl
  obtain ⟨-, f, m, hf, hm, hroom⟩ := fdF_room h1
  rw [show atD sg0 [s] 0 = s from rfl] at hf
  rw [show atD ([] : List UInt8) [l] 0 = l from rfl] at hroom
  have hlen : (splice l f b).length = l.length := splice_len (by omega)
  have h2 : fdF [s] [splice l f b] a b.length false = some 0 := by
    rw [fdF_one, show lnB [splice l f b] 0 = (splice l f b).length from rfl, hlen]
    have : ofB s l.length a b.length false = true := by
      unfold ofB at h ⊢
      rw [Bool.and_eq_true] at h ⊢
      exact ⟨h.1, by rw [hw]; rfl⟩
    rw [this]; rfl
  rw [hf, Int.toNat_natCast]
  constructor
  · unfold storeR
    rw [h1]
    simp only [show atD sg0 [s] 0 = s from rfl, show atD ([] : List UInt8) [l] 0 = l from rfl, hf, Int.toNat_natCast, List.set_cons_zero]
  · unfold loadR
    rw [h2]
    simp only [show atD sg0 [s] 0 = s from rfl, show atD ([] : List UInt8) [splice l f b] 0 = splice l f b from rfl, hf, Int.toNat_natCast]
    rw [take_splice l b f (by omega)]
theorem put_none {s : Sg} {l b : List UInt8} {a : Int} (h : hasB s l.length a b.length = false) : storeR [s] [l] a b = ([l], false) ∧ loadR [s] [l] a b.length = ([], false) := by
  have hn : ∀ wr, fdF [s] [l] a b.length wr = none := fun wr => by
    rw [fdF_one, show lnB [l] 0 = l.length from rfl]
    unfold ofB
    rw [h]; rfl
  unfold storeR loadR
  rw [hn, hn]
  exact ⟨rfl, rfl⟩
theorem val4_putB (n : Int) : val4 (putB n) = n % 4294967296 := by
  have h : ∀ m : Int, ((ob (m % 256).toNat).toNat : Int) = m % 256 := fun m => by rw [ob_toNat (by omega)]; omega
  unfold putB val4
  simp only [h]
  omega
theorem works_store : storeR [⟨16, 8, true⟩] [z0 ⟨16, 8, true⟩] 20 (putB 513) = ([splice (z0 ⟨16, 8, true⟩) 4 (putB 513)], true) ∧ loadR [⟨16, 8, true⟩] [splice (z0 ⟨16, 8, true⟩) 4 (putB 513)] 20 4 = (putB 513, true) :=
  put_got rfl (by decide)
set_option maxRecDepth 100000 in
theorem works_any (w : World) : Calls Try.prog 10 #[] w fun e w' => e = .returned (.bool true) ∧ Below w.heap.size w w' := by
  have hs1 := sg_one w ⟨16, 8, true⟩
  have hb1 := (Below.refl w.heap.size w).alloc (Nat.le_refl _) (.cells #[.int .i64 16, .int .i64 8, .bool true] 26)
  obtain ⟨hst, hld⟩ := works_store
  have hv : val4 (putB 513) = 513 := by rw [val4_putB]; decide
  go_enter Try.func10, Try.ntmps10
  go_wp2_with fail
  generalize w.alloc (.cells #[.int .i64 16, .int .i64 8, .bool true] 26) = w1 at hs1 hb1 ⊢
  refine (newM_any hs1 (by intro s hs; simp at hs; subst hs; exact ⟨by unfold i64; decide, by unfold i64; decide⟩)).mono ?_
  rintro e w2 ⟨rfl, ⟨A, c, PQ, hm2⟩, hb2⟩
  have hB2 := hb1.trans (hb2.mono hb1.size)
  have hg1 : w.heap.size ≤ w1.heap.size := hb1.size
  generalize w1.heap.size = g at hm2 hg1 ⊢
  rw [show ([(⟨16, 8, true⟩ : Sg)].take 4) = [⟨16, 8, true⟩] from rfl, show ([(⟨16, 8, true⟩ : Sg)].map z0) = [z0 ⟨16, 8, true⟩] from rfl] at hm2
  go_wp2_with fail
  refine (put_any hm2 (a := 20) (n := 513) (by unfold i64; decide) (by unfold i64; decide)).mono ?_
  rintro e w3 ⟨rfl, hm3, f3⟩
  rw [hst] at hm3 ⊢
  simp only at hm3 ⊢
  have hB3 := hB2.trans (f3.below (B := w.heap.size) (fun k hk h => by have h := hm2.le k h; omega) hB2.size)
  go_wp2_with fail
  refine (word_any hm3 (a := 20) (by unfold i64; decide)).mono ?_
  rintro e w4 ⟨rfl, hb4⟩
  rw [hld]
  simp only [hv]
  have hm4 := hm3.keep hb4
  have hB4 := hB3.trans (hb4.mono hB3.size)
  go_wp2_with fail
  refine (may_any hm4 (a := 20) (n := 4) (wr := true) (by unfold i64; decide) (by unfold i64; decide)).mono ?_
  rintro e w5 ⟨rfl, hb5⟩
  have hy : (fdF [⟨16, 8, true⟩] [splice (z0 ⟨16, 8, true⟩) 4 (putB 513)] 20 4 true).isSome = true := by
    rw [fdF_one]
    decide
  rw [hy]
  have hm5 := hm4.keep hb5
  have hB5 := hB4.trans (hb5.mono hB4.size)
  go_wp2_with fail
  refine (may_any hm5 (a := 20) (n := 5) (wr := false) (by unfold i64; decide) (by unfold i64; decide)).mono ?_
  rintro e w6 ⟨rfl, hb6⟩
  have hno : (fdF [⟨16, 8, true⟩] [splice (z0 ⟨16, 8, true⟩) 4 (putB 513)] 20 5 false).isSome = false := by
    rw [fdF_one]
    decide
  rw [hno]
  have hm6 := hm5.keep hb6
  have hB6 := hB5.trans (hb6.mono hB5.size)
  go_wp2_with fail
  refine (bytes_any hm6 (k := 0) (by unfold i64; decide)).mono ?_
  rintro e w7 ⟨v7, rfl, hown7, hb7⟩
  have h8 : (bytesR [splice (z0 ⟨16, 8, true⟩) 4 (putB 513)] 0).length = 8 := by decide
  rw [h8] at hown7
  obtain ⟨V, vc, rfl, -, -⟩ := Sl.of_own hown7
  go_wp2_with fail
  go_ret
  exact ⟨rfl, hB6.trans (hb7.mono hB6.size)⟩
end Go.Proofs.Ytpgglefimdllbaa
