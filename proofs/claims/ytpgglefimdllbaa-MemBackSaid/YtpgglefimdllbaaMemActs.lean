/- The walks of package mem: May, Load, Store, Bytes. -/
import Derived.Test.YtpgglefimdllbaaMemCopy
namespace Go.Proofs.Ytpgglefimdllbaa
open Go.RowKit
theorem byte_info : (Try.prog.info? 5).map (fun i => (i.zero, i.size, i.bytes)) = some (some (.int .u8 0), 1, 1) := by kernel_rfl
theorem size1 (w : World) : (sizeOf (Try.prog.elem 39)).run Try.prog w = .ok 1 w := by kernel_rfl
theorem u_bytes : Try.prog.underlying 39 = some (.slice (Try.prog.elem 39)) := by kernel_rfl
/-- an empty literal is an owned row -/
theorem own_lit (w : World) (e : TypeId) (size : Nat) : (w.alloc (.cells #[] e)).ownsRow w.heap.size e size (.slice (some ⟨w.heap.size, 0, none⟩) 0 0) 0 [] :=
  ⟨by simp, .inr ⟨w.heap.size, 0, #[], rfl, Nat.le_refl _, heap_alloc_new w _, Nat.le_refl _, by unfold maxLen; omega, by simp, by simp⟩⟩
theorem bv_cell (l : List UInt8) : ∀ u ∈ l.map bv, u.oneCell' = true := by
  intro u hu
  obtain ⟨x, _, rfl⟩ := List.mem_map.1 hu
  rfl
theorem clone_any {w : World} {A : Option Addr} {n c : Nat} {l : List UInt8} (h : SlB w A n c l) (hn : n ≤ 1000000) :
    Calls Try.prog 26 #[.slice A n c] w fun e w' => ∃ v, e = .returned v ∧ w'.ownsRow w.heap.size 5 1 v n (l.map bv) ∧ Below w.heap.size w w' := by
  obtain ⟨i0, hi0, hz0, hz1, hz2⟩ := info_parts byte_info
  cases A with
  | none =>
    have hc : c = 0 := h.1.2.2.2.1 rfl
    have hn0 : n = 0 := by have := h.1.2.1; omega
    subst hc hn0
    obtain rfl : l = [] := List.eq_nil_of_length_eq_zero h.2
    have hnil := fun w => Lib.run_eql_slice_nil (P := Try.prog) w 39 5 none 0 0 0 0 Try.underlying39
    go_enter Try.func26, Try.ntmps26
    go_wp2_with fail
    go_ret
    exact ⟨_, rfl, World.ownsRow_nil _ _ _ _, Below.refl _ _⟩
  | some ad =>
    have hb0 := (Below.refl w.heap.size w).alloc (Nat.le_refl _) (.cells #[] 5)
    have hown0 := own_lit w 5 1
    have hl0 := h.keep hb0
    have hnews : ∀ (j : Nat) (u : Value), (l.map bv)[j]? = some u → (w.alloc (.cells #[] 5)).cell? (ad.add j) = some u := by
      intro j u hu
      have hlt : j < n := by
        have := (List.getElem?_eq_some_iff.1 hu).1
        rw [List.length_map, h.2] at this
        exact this
      obtain ⟨b, o, e, _, hc⟩ := hl0.1.at_ (by omega)
      cases e
      rw [add_none]
      exact hc j u hu
    have hlen := h.2
    have hnil := fun w => Lib.run_eql_slice_nil (P := Try.prog) w 39 5 (some ad) n c 0 0 Try.underlying39
    go_enter Try.func26, Try.ntmps26
    go_wp2_with (at_builtin; refine wpList_append_own_at _ (by rfl) _ _ 39 (by rfl) w.heap.size 5 i0 _ 1 1 Try.underlying39 hi0 hz0 hz1 hz2 rfl (by decide) _ 0 _ (by rfl) hown0 ad n c (l.map bv) (by rfl) (by simp; omega) hnews (bv_cell l) (by unfold maxLen; omega) (by omega) (by simp) ?_; intro v' w1 hown1 hg1 hnil1 hat1)
    go_ret
    exact ⟨v', rfl, by rw [Nat.zero_add, List.nil_append] at hown1; exact hown1, hb0.grown hg1 (by simp) (fun k e => by cases e; exact Nat.le_refl _)⟩
theorem may_any {w : World} {g B : Nat} {A : Option Addr} {c : Nat} {PQ : List (Nat × Nat)} {Ss : List Sg} {Bs : List (List UInt8)} (h : MemX w g B A c PQ Ss Bs) {a n : Int} {wr : Bool} (ha : i64 a) (hn : i64 n) :
    Calls Try.prog 19 #[.pointer (some ⟨g, 0, none⟩), .int .i64 a, .int .i64 n, .bool wr] w fun e w' => e = .returned (.bool (fdF Ss Bs a n wr).isSome) ∧ Below w.heap.size w w' := by
  go_enter Try.func19, Try.ntmps19
  go_wp2_with fail
  refine (of_any h ha hn).mono ?_
  rintro e w2 ⟨rfl, hb2⟩
  cases hR : fdF Ss Bs a n wr with
  | none =>
    simp only [ptF]
    go_wp2_with fail
    go_ret
    exact ⟨by rw [hR]; rfl, hb2⟩
  | some k =>
    simp only [ptF]
    go_wp2_with fail
    go_ret
    exact ⟨by rw [hR]; rfl, hb2⟩
def loadR (Ss : List Sg) (Bs : List (List UInt8)) (a n : Int) : List UInt8 × Bool := match fdF Ss Bs a n false with
  | none => ([], false)
  | some k => (((atD [] Bs k).drop (a - (atD sg0 Ss k).ba).toNat).take n.toNat, true)
def storeR (Ss : List Sg) (Bs : List (List UInt8)) (a : Int) (b : List UInt8) : List (List UInt8) × Bool := match fdF Ss Bs a b.length true with
  | none => (Bs, false)
  | some k => (Bs.set k (splice (atD [] Bs k) (a - (atD sg0 Ss k).ba).toNat b), true)
theorem fdF_room {Ss : List Sg} {Bs : List (List UInt8)} {a n : Int} {wr : Bool} {k : Nat} (h : fdF Ss Bs a n wr = some k) : k < Ss.length ∧ ∃ f m : Nat, a - (atD sg0 Ss k).ba = f ∧ n = m ∧ f + m ≤ (atD [] Bs k).length := by
  obtain ⟨h1, h2⟩ := fdF_at h
  refine ⟨h1, ?_⟩
  unfold ofB at h2
  rw [Bool.and_eq_true, hasB_iff] at h2
  obtain ⟨⟨r1, r2, r3, r4⟩, _⟩ := h2
  unfold lnB at r3 r4
  exact ⟨(a - (atD sg0 Ss k).ba).toNat, n.toNat, by omega, by omega, by omega⟩
theorem SlB.of_whole {w : World} {g : Nat} {t : TypeId} {l : List UInt8} (h : Blk w g t (l.map bv).toArray) (hl : l.length ≤ 1000000) : SlB w (some ⟨g, 0, none⟩) l.length l.length l := SlB.of_blk h l rfl hl
set_option maxRecDepth 100000 in
set_option maxHeartbeats 1600000 in
theorem load_any {w : World} {g B : Nat} {A : Option Addr} {c : Nat} {PQ : List (Nat × Nat)} {Ss : List Sg} {Bs : List (List UInt8)} (h : MemX w g B A c PQ Ss Bs) {a n : Int} (ha : i64 a) (hn : i64 n) :
    Calls Try.prog 17 #[.pointer (some ⟨g, 0, none⟩), .int .i64 a, .int .i64 n] w fun e w' => ∃ v, e = .returned (.tuple #[v, .bool (loadR Ss Bs a n).2]) ∧ w'.ownsRow w.heap.size 5 1 v (loadR Ss Bs a n).1.length ((loadR Ss Bs a n).1.map bv) ∧ Below w.heap.size w w' := by
  have HL : Hid (loadR Ss Bs a n = match fdF Ss Bs a n false with
    | none => ([], false)
    | some k => (((atD [] Bs k).drop (a - (atD sg0 Ss k).ba).toNat).take n.toNat, true)) := rfl
  generalize loadR Ss Bs a n = R at HL ⊢
  go_enter Try.func17, Try.ntmps17
  go_wp2_with fail
  refine (of_any h ha hn).mono ?_
  rintro e w2 ⟨rfl, hb2⟩
  have h2 := h.keep hb2
  cases hF : fdF Ss Bs a n false with
  | none =>
    have HR : Hid (R = ([], false)) := by unfold Hid; rw [HL.out, hF]
    clear HL hF
    simp only [ptF]
    go_wp2_with fail
    go_ret2
    rw [HR.out]
    exact ⟨_, rfl, World.ownsRow_nil _ _ _ _, hb2⟩
  | some k =>
    obtain ⟨hk, f, m, hf, rfl, hroom⟩ := fdF_room hF
    have HR : Hid (R = (((atD [] Bs k).drop f).take m, true)) := by
      unfold Hid
      rw [HL.out, hF]
      simp only [hf, Int.toNat_natCast]
    clear HL hF
    obtain ⟨-, -, -, -, -, -, -, h8, -⟩ := h2
    obtain ⟨r1, r2, r3⟩ := h8 k hk
    have hsl := SlB.of_whole r2 (by omega)
    simp only [ptF]
    generalize atD sg0 Ss k = s at hf r1
    generalize atD (0, 0) PQ k = x at r1 r2 hsl ⊢
    generalize atD [] Bs k = l at hroom HR r1 r2 r3 hsl
    have hcut := fun w => run_cut_lh u_bytes size1 w (some ⟨x.2, 0, none⟩) l.length l.length f (f + m) (by omega) (by omega)
    rw [show ((f + m : Nat) : Int) = (f : Int) + (m : Int) by omega, show f + m - f = m by omega] at hcut
    have hsc := hsl.cut (lo := f) (hi := f + m) (by omega) (by omega)
    rw [show f + m - f = m by omega] at hsc
    have c0 : w2.cell? ⟨x.1, 0, none⟩ = some (.int .i64 s.ba) := r1.cell 0
    have c3 : w2.cell? ⟨x.1, 3, none⟩ = some (.slice (some ⟨x.2, 0, none⟩) l.length l.length) := r1.cell 3
    have hw : IntKind.i64.wrap (a - s.ba) = (f : Int) := by rw [hf]; exact IntWalk.i64_in _ (by omega)
    go_wp2_with fail
    refine (clone_any hsc (by omega)).mono ?_
    rintro e w3 ⟨v3, rfl, hown3, hb3⟩
    go_wp2_with fail
    go_ret2
    rw [HR.out]
    refine ⟨v3, rfl, ?_, hb2.trans (hb3.mono hb2.size)⟩
    rw [show (((l.drop f).take m, true) : List UInt8 × Bool).1.length = m by simp; omega]
    exact own_mono hown3 hb2.size
end Go.Proofs.Ytpgglefimdllbaa
