/- The walks of package mem: Store, Bytes, Clear. -/
import Derived.Test.YtpgglefimdllbaaMemActs
namespace Go.Proofs.Ytpgglefimdllbaa
open Go.RowKit
/-- the blocks of the regions' bytes -/
def QS (PQ : List (Nat × Nat)) (n j : Nat) : Prop := ∃ i, i < n ∧ j = (atD (0, 0) PQ i).2
theorem MemX.le {w : World} {g B : Nat} {A : Option Addr} {c : Nat} {PQ : List (Nat × Nat)} {Ss : List Sg} {Bs : List (List UInt8)} (h : MemX w g B A c PQ Ss Bs) : ∀ j, QS PQ Ss.length j → B ≤ j := by
  obtain ⟨-, -, -, -, -, -, -, -, h9⟩ := h
  rintro j ⟨i, hi, rfl⟩
  exact (h9 i hi).1
theorem splice_len {l b : List UInt8} {f : Nat} (h : f + b.length ≤ l.length) : (splice l f b).length = l.length := length_splice l f b h
theorem splice_map (l b : List UInt8) (f : Nat) : splice (l.map bv) f (b.map bv) = (splice l f b).map bv := by
  simp [splice, List.map_take, List.map_drop]
set_option maxRecDepth 100000 in
set_option maxHeartbeats 1600000 in
theorem store_any {w : World} {g B : Nat} {A : Option Addr} {c : Nat} {PQ : List (Nat × Nat)} {Ss : List Sg} {Bs : List (List UInt8)} (h : MemX w g B A c PQ Ss Bs) {a : Int} (ha : i64 a) {D : Option Addr} {n d : Nat} {b : List UInt8} (hb : SlB w D n d b) :
    Calls Try.prog 15 #[.pointer (some ⟨g, 0, none⟩), .int .i64 a, .slice D n d] w fun e w' => e = .returned (.bool (storeR Ss Bs a b).2) ∧ MemX w' g B A c PQ Ss (storeR Ss Bs a b).1 ∧ Fr (QS PQ Ss.length) w w' := by
  have hbl := hb.2
  have hn := hb.len
  have HL : Hid (storeR Ss Bs a b = match fdF Ss Bs a n true with
    | none => (Bs, false)
    | some k => (Bs.set k (splice (atD [] Bs k) (a - (atD sg0 Ss k).ba).toNat b), true)) := by unfold Hid storeR; rw [hbl]; rfl
  generalize storeR Ss Bs a b = R at HL ⊢
  have hni : i64 (n : Int) := by unfold i64; omega
  go_enter Try.func15, Try.ntmps15
  go_wp2_with fail
  refine (of_any h ha hni).mono ?_
  rintro e w2 ⟨rfl, hb2⟩
  have h2 := h.keep hb2
  cases hF : fdF Ss Bs a n true with
  | none =>
    have HR : Hid (R = (Bs, false)) := by unfold Hid; rw [HL.out, hF]
    clear HL hF
    simp only [ptF]
    go_wp2_with fail
    go_ret
    rw [HR.out]
    exact ⟨rfl, h2, Fr.of_below hb2 _⟩
  | some k =>
    obtain ⟨hk, f, m, hf, hnm, hroom⟩ := fdF_room hF
    obtain rfl : n = m := by omega
    clear hnm
    have HR : Hid (R = (Bs.set k (splice (atD [] Bs k) f b), true)) := by
      unfold Hid
      rw [HL.out, hF]
      simp only [hf, Int.toNat_natCast]
    clear HL hF
    have hX := h2
    obtain ⟨-, -, -, -, -, -, -, h8, h9⟩ := h2
    obtain ⟨r1, r2, r3⟩ := h8 k hk
    obtain ⟨q1, q2, q3, q4⟩ := h9 k hk
    have hqp := (q4 k hk).1
    have hQ : QS PQ Ss.length (atD (0, 0) PQ k).2 := ⟨k, hk, rfl⟩
    have hupd := fun (l : List UInt8) (w' : World) (h1 : l.length = (atD [] Bs k).length) h2 h3 => MemX.upd (w' := w') hX hk h1 h2 h3
    have hb2' := hb.keep hb2
    simp only [ptF]
    generalize atD sg0 Ss k = s at hf r1
    generalize atD (0, 0) PQ k = x at r1 r2 q1 hqp hQ hupd ⊢
    generalize atD [] Bs k = l at hroom HR r1 r2 r3 hupd
    clear h8 h9 q2 q3 q4 hX
    have hcut := fun w => run_cut_l u_bytes size1 w (some ⟨x.2, 0, none⟩) l.length l.length f (by omega)
    obtain ⟨off, hsA, hsp, hoff⟩ : ∃ off, slA (some ⟨x.2, 0, none⟩) f l.length 1 = some ⟨x.2, off, none⟩ ∧ splice l off b = splice l f b ∧ off + n ≤ l.length := by
      by_cases hfl : l.length = f
      · have hb0 : b = [] := List.eq_nil_of_length_eq_zero (by omega)
        refine ⟨0, by unfold slA; rw [if_pos hfl], ?_, by omega⟩
        subst hb0
        simp [splice]
      · refine ⟨f, ?_, rfl, hroom⟩
        unfold slA
        rw [if_neg hfl]
        show some ((⟨x.2, 0, none⟩ : Addr).add (f * 1)) = _
        rw [add_none, Nat.zero_add, Nat.mul_one]
    rw [hsA] at hcut
    rw [← hsp] at HR
    clear hsA hsp
    have c0 : w2.cell? ⟨x.1, 0, none⟩ = some (.int .i64 s.ba) := r1.cell 0
    have c3 : w2.cell? ⟨x.1, 3, none⟩ = some (.slice (some ⟨x.2, 0, none⟩) l.length l.length) := r1.cell 3
    have hw : IntKind.i64.wrap (a - s.ba) = (f : Int) := by rw [hf]; exact IntWalk.i64_in _ (by omega)
    have hp1 := r1.lt
    have hnS : ¬ x.1 = x.2 := fun e => hqp e.symm
    go_wp2_with fail
    refine wp_region_fen (fun j => j = x.2) [(13, 0)] (by kernel_rfl) (by kernel_rfl) ?_
    simp only [wpSegsF, List.take, List.drop]
    repeat (go_big_quiet_step (fail))
    refine wpQuiet_nil (wpHeadF_want rfl (fun K' hK' => ?_))
    have r2' : Blk w2.drew x.2 5 (l.map bv).toArray := r2
    have hmin : (b.map bv).length = Nat.min n (l.length - f) := by
      rw [List.length_map, hbl]
      show n = min n (l.length - f)
      omega
    refine wp_copy_row _ _ 39 39 (by rfl) (Try.prog.elem 39) u_bytes (by kernel_rfl) x.2 off (l.length - f) (l.length - f) n d D (by rfl) (by rfl) (l.map bv) 5 r2' (b.map bv) hmin ?_ (by rw [List.length_map, List.length_map, hbl]; exact hoff) (bv_cell b) ?_
    · intro hpos
      rw [List.length_map, hbl] at hpos
      obtain ⟨db, o, e, _, hc⟩ := hb2'.1.at_ hpos
      exact ⟨⟨db, o, none⟩, e, fun j u hu => by rw [add_none]; exact hc j u hu⟩
    · intro w3 b3 f3
      replace f3 : Fr (fun k => k = x.2) w2 w3 := ((Fr.refl (fun k => k = x.2) w2).drew).trans f3
      rw [splice_map] at b3
      have hx3 := hupd _ w3 (splice_len (by rw [hbl]; exact hoff)) f3 b3
      refine hK' _ _ rfl (fr_graft f3) ?_
      clear hK' K'
      try simp only [wpSegsF]
      repeat (go_big_quiet_step (fail))
      refine wpQuiet_nil ?_
      go_wp2_with fail
      go_ret
      rw [HR.out]
      exact ⟨rfl, hx3, (Fr.of_below hb2 _).trans' f3 (fun j _ hj => by have hj : j = x.2 := hj; rw [hj]; exact hQ)⟩
/-- all bytes 0 -/
def zl (l : List UInt8) : List UInt8 := List.replicate l.length 0
def clrK (Bs : List (List UInt8)) (k : Nat) : List (List UInt8) := (Bs.take k).map zl ++ Bs.drop k
theorem zl_map (l : List UInt8) : (zl l).map bv = List.replicate l.length (.int .u8 0) := by simp [zl, bv]
theorem clrK_len (Bs : List (List UInt8)) (k : Nat) : (clrK Bs k).length = Bs.length := by simp [clrK]; omega
theorem clrK_step (Bs : List (List UInt8)) (k : Nat) (hk : k < Bs.length) : (clrK Bs k).set k (zl (atD [] (clrK Bs k) k)) = clrK Bs (k + 1) ∧ (atD [] (clrK Bs k) k) = atD [] Bs k := by
  have h1 : atD [] (clrK Bs k) k = atD [] Bs k := by
    unfold atD clrK
    rw [List.getD_eq_getElem?_getD, List.getD_eq_getElem?_getD, List.getElem?_append_right (by simp; omega)]
    simp [Nat.min_eq_left (show k ≤ Bs.length by omega)]
  refine ⟨?_, h1⟩
  rw [h1, atD_lt hk]
  unfold clrK
  rw [List.set_append_right _ _ (by simp; omega), List.take_succ_eq_append_getElem hk, List.map_append, List.append_assoc]
  congr 1
  rw [List.length_map, List.length_take, Nat.min_eq_left (by omega), Nat.sub_self, List.drop_eq_getElem_cons hk]
  rfl
theorem zero_u8 (w : World) : (zeroValue (Try.prog.elem 39)).run Try.prog w = .ok (.int .u8 0) w := by kernel_rfl
set_option maxRecDepth 100000 in
set_option maxHeartbeats 1600000 in
theorem clear_any {w : World} {g B : Nat} {A : Option Addr} {c : Nat} {PQ : List (Nat × Nat)} {Ss : List Sg} {Bs : List (List UInt8)} (h : MemX w g B A c PQ Ss Bs) :
    Calls Try.prog 18 #[.pointer (some ⟨g, 0, none⟩)] w fun e w' => e = .returned (.tuple #[]) ∧ MemX w' g B A c PQ Ss (Bs.map zl) ∧ Fr (QS PQ Ss.length) w w' := by
  have hBl := h.2.2.1
  have g0 : w.cell? ⟨g, 0, none⟩ = some (.slice A Ss.length c) := h.1.cell 0
  go_enter Try.func18, Try.ntmps18
  go_wp2_with fail
  obtain ⟨wo, rfl⟩ : ∃ wo : World, wo = w := ⟨_, rfl⟩
  go_loopw [11] (fun i wr => ∃ k : Nat, k ≤ Ss.length ∧ i = .int .i64 (k : Int) ∧ MemX wr g B A c PQ Ss (clrK Bs k) ∧ Fr (QS PQ Ss.length) wo wr) (fun i _ => Ss.length - (intOf i).toNat)
  case atStart => exact ⟨0, by omega, rfl, h, Fr.refl _ _⟩
  case round =>
    obtain ⟨k, hk, rfl, hx, hf⟩ := hrel
    clear g0
    by_cases hlt : k < Ss.length
    · have hlt' : (k : Int) < (Ss.length : Int) := by omega
      have hX := hx
      obtain ⟨-, hS, -, -, -, h6, -, h8, h9⟩ := hx
      obtain ⟨b, o, rfl, hb, hc⟩ := hS.at_ (0, 0) hlt
      have e0 : wr.cell? ⟨b, o + k, none⟩ = some (.pointer (some ⟨(atD (0, 0) PQ k).1, 0, none⟩)) := by have := hc 0 _ rfl; simpa using this
      obtain ⟨r1, r2, r3⟩ := h8 k hlt
      obtain ⟨q1, q2, q3, q4⟩ := h9 k hlt
      obtain ⟨hst, hat⟩ := clrK_step Bs k (by omega)
      have hupd := fun (w' : World) h1 h2 h3 => MemX.upd (w' := w') (l := zl (atD [] (clrK Bs k) k)) hX hlt h1 h2 h3
      rw [hst] at hupd
      have hQ : QS PQ Ss.length (atD (0, 0) PQ k).2 := ⟨k, hlt, rfl⟩
      generalize atD (0, 0) PQ k = x at e0 r1 r2 q1 hQ hupd
      generalize atD [] (clrK Bs k) k = l at r1 r2 r3 hupd
      have c3 : wr.cell? ⟨x.1, 3, none⟩ = some (.slice (some ⟨x.2, 0, none⟩) l.length l.length) := r1.cell 3
      clear h8 h9 q2 q3 q4 hX hc hat hst hS
      by_cases hl0 : l.length = 0
      · have hl : l = [] := List.eq_nil_of_length_eq_zero hl0
        subst hl
        have hclr := fun ty => run_clear_none (P := Try.prog) wr 39 _ ty u_bytes (some ⟨x.2, 0, none⟩) 0
        have hx2 := hupd wr rfl (Fr.refl _ _) r2
        go_wp2_with fail
        exact ⟨⟨k + 1, by omega, by go_num, hx2, hf⟩, by simp [intOf]; omega⟩
      · have hclr := fun ty => run_clear_row (P := Try.prog) wr 39 _ ty _ u_bytes zero_u8 rfl rfl x.2 l.length l.length (by omega) _ _ r2 (by simp)
        have hb2 : Blk (wr.setRow x.2 (List.replicate l.length (.int .u8 0)).toArray) x.2 5 ((zl l).map bv).toArray := by
          rw [zl_map]
          exact setRow_heap wr x.2 _ _ _ (0, 0) r2
        have f2 := fr_setRow wr x.2 (List.replicate l.length (.int .u8 0)).toArray
        rw [List.toArray_replicate] at hb2 f2
        go_wp2_with fail
        generalize wr.setRow x.2 (Array.replicate l.length (.int .u8 0)) = w2 at hb2 f2 ⊢
        exact ⟨⟨k + 1, by omega, by go_num, hupd w2 (by simp [zl]) f2 hb2, hf.trans' f2 (fun j _ hj => by have hj : j = x.2 := hj; rw [hj]; exact hQ)⟩, by simp [intOf]; omega⟩
    · obtain rfl : k = Ss.length := by omega
      have he : clrK Bs Ss.length = Bs.map zl := by
        unfold clrK
        rw [← hBl, List.take_length, List.drop_length, List.append_nil]
      rw [he] at hx
      go_wp2_with fail
      go_end0
      exact ⟨rfl, hx, hf⟩
end Go.Proofs.Ytpgglefimdllbaa
