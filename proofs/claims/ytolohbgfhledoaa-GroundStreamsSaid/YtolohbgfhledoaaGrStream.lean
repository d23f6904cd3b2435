/- The walk of package ground's Stream. -/
import Derived.Test.YtolohbgfhledoaaRtBytes
import Derived.Test.YtolohbgfhledoaaGrArgs
namespace Go.Proofs.Ytolohbgfhledoaa
open Go.RowKit
/-- from place a on, the bytes are the packets L, one by one, to place z -/
def Chain (b : List UInt8) : Nat → List Pk → Nat → Prop
  | a, [], z => a = z
  | a, p :: L, z => (takeP (b.drop a)).2.2 = 0 ∧ (takeP (b.drop a)).1 = p ∧ Chain b (a + (takeP (b.drop a)).2.1) L z
theorem Chain.snoc {b : List UInt8} : ∀ {L : List Pk} {a z : Nat}, Chain b a L z → (takeP (b.drop z)).2.2 = 0 → Chain b a (L ++ [(takeP (b.drop z)).1]) (z + (takeP (b.drop z)).2.1)
  | [], a, z, h, hz => by
    have h : a = z := h
    subst h
    exact ⟨hz, rfl, rfl⟩
  | p :: L, a, z, ⟨h1, h2, h3⟩, hz => ⟨h1, h2, h3.snoc hz⟩
theorem take_room {b : List UInt8} {a : Nat} (ha : a ≤ b.length) (h : (takeP (b.drop a)).2.2 = 0) : 0 < (takeP (b.drop a)).2.1 ∧ a + (takeP (b.drop a)).2.1 ≤ b.length := by
  obtain ⟨s, h1, h2, h3⟩ := takeP_ok h
  have hl := congrArg List.length h1
  rw [List.length_drop, List.length_append] at hl
  rw [h2, packB_len] at *
  have := plB_len (takeP (b.drop a)).1
  omega
theorem pkG_info : (Try.prog.info? 29).map (fun i => (i.zero, i.size, i.bytes)) = some (some (.agg #[.int .i64 0, .int .i64 0, .int .i64 0, .int .i64 0]), 4, 32) := by kernel_rfl
theorem pkC_len (l : List Pk) : (l.flatMap pkC).length = l.length * 4 := flat_len l (fun _ _ => rfl)
set_option maxRecDepth 100000 in
set_option maxHeartbeats 3200000 in
theorem stream_any {w : World} {A : Option Addr} {n c : Nat} {b : List UInt8} (hb : SlB w A n c b) (hn : n ≤ 100000) :
    Calls Try.prog 15 #[.slice A n c] w fun e w' => ∃ (v : Value) (L : List Pk) (z : Nat), e = .returned (.tuple #[v, .int .i64 (z : Int)]) ∧ w'.ownsRow w.heap.size 29 4 v L.length (L.flatMap pkC) ∧ Chain b 0 L z ∧ z ≤ n ∧ L.length ≤ n ∧ (takeP (b.drop z)).2.2 ≠ 0 ∧ Below w.heap.size w w' := by
  obtain ⟨i0, hi0, hz0, hz1, hz2⟩ := info_parts pkG_info
  have hbl := hb.2
  have hu : Try.prog.underlying 43 = some (.slice 29) := by kernel_rfl
  go_enter Try.func15, Try.ntmps15
  go_wp2_with fail
  obtain ⟨wo, rfl⟩ : ∃ wo : World, wo = w := ⟨_, rfl⟩
  go_loopw [4, 5] (fun v i wr => ∃ (a : Nat) (L : List Pk), a ≤ n ∧ L.length ≤ a ∧ i = .int .i64 (a : Int) ∧ wr.ownsRow wo.heap.size 29 4 v L.length (L.flatMap pkC) ∧ Chain b 0 L a ∧ Below wo.heap.size wo wr) (fun _ i _ => n - (intOf i).toNat)
  case atStart => exact ⟨0, [], by omega, by simp, rfl, World.ownsRow_nil _ _ _ _, rfl, Below.refl _ _⟩
  case round =>
    obtain ⟨a, L, ha, hLa, rfl, hown, hch, hbw⟩ := hrel
    have hcut := fun w => run_cut_l u_bytes size1' w A n c a ha
    have hsc := (hb.keep hbw).cut (lo := a) (hi := n) ha (Nat.le_refl _)
    have hrm := take_room (b := b) (a := a) (by omega)
    rw [show (b.drop a).take (n - a) = b.drop a from List.take_of_length_le (by rw [List.length_drop]; omega)] at hsc
    go_wp2_with fail
    refine (take_any' hsc (by omega)).mono ?_
    rintro e w2 ⟨rfl, hb2⟩
    have hB2 := hbw.trans (hb2.mono hbw.size)
    have hown2 := own_below hown hb2
    have hsn := hch.snoc
    generalize hT : takeP (b.drop a) = T at hrm hsn ⊢
    have HE := Lib.hid hT
    clear hT
    obtain ⟨⟨q, k, f, v⟩, tn, te⟩ := T
    simp only [Pk.val] at hrm hsn ⊢
    have b6 := Blk.new w2 29 #[.int .i64 q, .int .i64 k, .int .i64 f, .int .i64 v]
    have hb6 := (Below.refl w2.heap.size w2).alloc (Nat.le_refl _) (.cells #[.int .i64 q, .int .i64 k, .int .i64 f, .int .i64 v] 29)
    go_upto_region 4 with fail
    generalize w2.alloc (.cells #[.int .i64 q, .int .i64 k, .int .i64 f, .int .i64 v] 29) = w3 at b6 hb6 ⊢
    have hB3 := hB2.trans (hb6.mono hB2.size)
    have hown3 := own_below hown2 hb6
    generalize w2.heap.size = g6 at b6 ⊢
    by_cases he : te = 0
    · have he' : (te != 0) = false := by simpa using he
      have hr := hrm he
      have hs := hsn he
      have x0 : w3.cell? ⟨g6, 0, none⟩ = some (.int .i64 q) := b6.cell 0
      have x1 : w3.cell? ⟨g6, 1, none⟩ = some (.int .i64 k) := b6.cell 1
      have x2 : w3.cell? ⟨g6, 2, none⟩ = some (.int .i64 f) := b6.cell 2
      have x3 : w3.cell? ⟨g6, 3, none⟩ = some (.int .i64 v) := b6.cell 3
      have hz3 := hB3.size
      clear hrm hsn HE he
      go_wp2_with (at_builtin; refine wpList_app1 w3 (by rfl) _ _ 43 (by rfl) wo.heap.size 29 i0 _ 4 32 hu hi0 hz0 hz1 hz2 rfl (by decide) (by decide) _ L.length _ (by rfl) hown3 #[.int .i64 q, .int .i64 k, .int .i64 f, .int .i64 v] rfl (by simp [Value.oneCell']) (by rfl) (by omega) (by omega) ?_; intro v' w4 hown4 hf4 hat4)
      refine ⟨⟨a + tn, L ++ [⟨q, k, f, v⟩], by omega, by simp; omega, by go_num, ?_, hs, ?_⟩, by simp [intOf]; omega⟩
      · rw [List.length_append, List.flatMap_append]
        exact hown4
      · exact hB3.trans (hf4.below (B := wo.heap.size) (fun k hk h => by have := own_le hown3 k h; omega) hz3)
    · have he' : (te != 0) = true := by simpa using he
      clear hrm hsn
      go_wp2_with fail
      go_ret2
      exact ⟨_, L, a, rfl, hown3, hch, ha, by omega, by rw [HE.out]; exact he, hB3⟩
end Go.Proofs.Ytolohbgfhledoaa
