/- Both memories at once; the law's like walked. -/
import Derived.Test.YtpgglefimdllbaaMrNew
import Derived.Test.YtpgglefimdllbaaMixD
namespace Go.Proofs.Ytpgglefimdllbaa
open Go.RowKit
/-- the memory's blocks all lie below N -/
def MBd (N g : Nat) (A : Option Addr) (PQ : List (Nat × Nat)) (n : Nat) : Prop := g < N ∧ (∀ b o, 0 < n → A = some ⟨b, o, none⟩ → b < N) ∧ ∀ i, i < n → (atD (0, 0) PQ i).1 < N ∧ (atD (0, 0) PQ i).2 < N
theorem MemX.mbd {w : World} {g B : Nat} {A : Option Addr} {c : Nat} {PQ : List (Nat × Nat)} {Ss : List Sg} {Bs : List (List UInt8)} (h : MemX w g B A c PQ Ss Bs) : MBd w.heap.size g A PQ Ss.length := by
  obtain ⟨h1, h2, h3, h4, h5, h6, h7, h8, h9⟩ := h
  refine ⟨h1.lt, fun b o hp e => ?_, fun i hi => ⟨(h8 i hi).1.lt, (h8 i hi).2.1.lt⟩⟩
  obtain ⟨b', o', e', hb, _⟩ := h2.1.at_ hp
  rw [e'] at e
  cases e
  exact hb
theorem MBd.mono {N N' g : Nat} {A : Option Addr} {PQ : List (Nat × Nat)} {n : Nat} (h : MBd N g A PQ n) (hN : N ≤ N') : MBd N' g A PQ n :=
  ⟨Nat.lt_of_lt_of_le h.1 hN, fun b o hp e => Nat.lt_of_lt_of_le (h.2.1 b o hp e) hN, fun i hi => ⟨Nat.lt_of_lt_of_le (h.2.2 i hi).1 hN, Nat.lt_of_lt_of_le (h.2.2 i hi).2 hN⟩⟩
theorem MBd.qs {N g : Nat} {A : Option Addr} {PQ : List (Nat × Nat)} {n : Nat} (h : MBd N g A PQ n) : ∀ j, QS PQ n j → j < N := by
  rintro j ⟨i, hi, rfl⟩
  exact (h.2.2 i hi).2
theorem MemX.frN {w w' : World} {g B N : Nat} {A : Option Addr} {c : Nat} {PQ : List (Nat × Nat)} {Ss : List Sg} {Bs : List (List UInt8)} (h : MemX w g B A c PQ Ss Bs) (hN : MBd N g A PQ Ss.length) (hf : Fr (fun j => N ≤ j) w w') : MemX w' g B A c PQ Ss Bs := by
  obtain ⟨n1, n2, n3⟩ := hN
  obtain ⟨h1, h2, h3, h4, h5, h6, h7, h8, h9⟩ := h
  refine ⟨h1.fr hf (by omega), h2.fr hf (fun b o hp e hj => by have := n2 b o hp e; have hj : N ≤ b := hj; omega), h3, h4, Nat.le_trans h5 hf.size, h6, h7, fun i hi => ?_, h9⟩
  obtain ⟨r1, r2, r3⟩ := h8 i hi
  obtain ⟨m1, m2⟩ := n3 i hi
  exact ⟨r1.fr hf (by omega), r2.fr hf (by omega), r3⟩
theorem bytes_str {w : World} {A : Option Addr} {n c : Nat} {l : List UInt8} (h : SlB w A n c l) : (convert 39 9 (.slice A n c)).run Try.prog w = .ok (.string ⟨l.toArray⟩) w :=
  run_bytes_str _ _ 5 (by kernel_rfl) (by kernel_rfl) (by kernel_rfl) h
theorem RefX.head {w : World} {r N : Nat} {Ss : List Sg} {Bs : List (List UInt8)} (h : RefX w r N Ss Bs) : ∃ A2 c2, w.cell? ⟨r, 1, none⟩ = some (.slice A2 Ss.length c2) ∧ r < w.heap.size ∧ Bs.length = Ss.length ∧ Ss.length ≤ 4 := by
  obtain ⟨A1, c1, A2, c2, XS, h1, h2, h3, h4, h5, h6, h7⟩ := h
  exact ⟨A2, c2, h1.cell 1, h1.lt, h4, h6⟩
set_option maxRecDepth 100000 in
set_option maxHeartbeats 3200000 in
theorem like_any {w : World} {g B : Nat} {A : Option Addr} {c : Nat} {PQ : List (Nat × Nat)} {r N : Nat} {Ss : List Sg} {Bs : List (List UInt8)} (hm : MemX w g B A c PQ Ss Bs) (hr : RefX w r N Ss Bs) :
    Calls Try.prog 12 #[.pointer (some ⟨g, 0, none⟩), .pointer (some ⟨r, 0, none⟩)] w fun e w' => e = .returned (.bool true) ∧ Below w.heap.size w w' := by
  obtain ⟨A2, c2, -, -, hBl, h4⟩ := hr.head
  go_enter Try.func12, Try.ntmps12
  go_wp2_with fail
  obtain ⟨wo, rfl⟩ : ∃ wo : World, wo = w := ⟨_, rfl⟩
  go_loopw [5] (fun i wr => ∃ k : Nat, k ≤ Ss.length ∧ i = .int .i64 (k : Int) ∧ Below wo.heap.size wo wr) (fun i _ => Ss.length - (intOf i).toNat)
  case atStart => exact ⟨0, by omega, rfl, Below.refl _ _⟩
  case round =>
    obtain ⟨k, hk, rfl, hbw⟩ := hrel
    have hmw := hm.keep hbw
    have hrw := hr.keep hbw
    by_cases hlt : k < Ss.length
    · have hlt' : (k : Int) < (Ss.length : Int) := by omega
      obtain ⟨ob, c3, X, r1, x0, hs, h256, hfz, hN, hob, hrl, hor, -⟩ := hrw.opened hlt
      have hcv : ∀ y, (convert 39 9 (.slice X.A X.n X.c)).run Try.prog (graft (fun _ => False) wr y) = .ok (.string ⟨(atD [] Bs k).toArray⟩) (graft (fun _ => False) wr y) := fun y =>
        bytes_str (SlB.fr (S := fun _ => False) hs (graft_fr _ _ _) (fun _ _ _ _ h => h))
      have hbk : bytesR Bs (k : Int) = atD [] Bs k := by unfold bytesR; rw [if_neg (by omega), Int.toNat_natCast]
      go_wp2_with fail
      refine wp_region_ord (fun _ => False) [0, 1, 4, 5, 6, 7, 8, 9, 10, 11, 2, 3, 12] [(10, 1)] (by kernel_rfl) (by kernel_rfl) ?_
      simp only [permL, wpSegsF, List.take, List.drop, List.cons_append, List.nil_append]
      repeat (go_big_quiet_step (fail))
      refine wpQuiet_nil (wpHeadF_fen rfl (fun K' hK' => ?_))
      go_wp2_with fail
      refine (bytes_any (w := wr.drew) (hmw.keep (Below.drew (Below.refl _ _))) (k := (k : Int)) (by unfold i64; omega)).mono ?_
      rintro e w2 ⟨v2, rfl, hown2, hb2⟩
      replace hb2 : Below wr.heap.size wr w2 := (Below.drew (Below.refl _ wr)).trans hb2
      rw [hbk] at hown2
      obtain ⟨V, vc, rfl, hsV, -⟩ := SlB.of_own hown2
      refine hK' _ _ (fun _ => False) rfl (fr_graft (Fr.of_below hb2 _)) ?_
      clear hK' K' hcv hown2
      have hcv : ∀ C y, (convert 39 9 (.slice V (atD [] Bs k).length vc)).run Try.prog (fenG C (fun _ => False) w2 y) = .ok (.string ⟨(atD [] Bs k).toArray⟩) (fenG C (fun _ => False) w2 y) := fun C y =>
        bytes_str (SlB.fr (S := fun _ => False) hsV (fenG_fr _ _ _ _) (fun _ _ _ _ h => h))
      try simp only [wpSegsF]
      generalize (atD [] Bs k).length = n at hcv ⊢
      generalize (atD [] Bs k).toArray = S at hcv ⊢
      repeat (go_big_quiet_step (fail))
      refine wpQuiet_nil ?_
      have hB2 := hbw.trans (hb2.mono hbw.size)
      clear hcv hsV x0 r1 hb2
      go_wp2_with fail
      exact ⟨⟨k + 1, by omega, by go_num, hB2⟩, by simp [intOf]; omega⟩
    · obtain rfl : k = Ss.length := by omega
      obtain ⟨A3, c3, r1, hrl, -, -⟩ := hrw.head
      have hb1 : bytesR Bs (-1) = [] := by unfold bytesR; rw [if_pos (.inl (by decide))]
      have hb2 : bytesR Bs (Ss.length : Int) = [] := by unfold bytesR; rw [if_pos (.inr (by omega))]
      clear hlt hk
      go_wp2_with fail
      refine wp_region_fen (fun _ => False) [(1, 0), (7, 0)] (by kernel_rfl) (by kernel_rfl) ?_
      simp only [wpSegsF, List.take, List.drop]
      repeat (go_big_quiet_step (fail))
      refine wpQuiet_nil (wpHeadF_want rfl (fun K' hK' => ?_))
      go_wp2_with fail
      refine (bytes_any (w := wr.drew) (hmw.keep (Below.drew (Below.refl _ _))) (k := -1) (by unfold i64; decide)).mono ?_
      rintro e w2 ⟨v2, rfl, hown2, hbb2⟩
      replace hbb2 : Below wr.heap.size wr w2 := (Below.drew (Below.refl _ wr)).trans hbb2
      rw [hb1] at hown2
      obtain ⟨V, vc, rfl, -, -⟩ := SlB.of_own (l := []) hown2
      refine hK' _ _ rfl (fr_graft (Fr.of_below hbb2 _)) ?_
      clear hK' K' hown2
      try simp only [List.take, List.drop]
      repeat (go_big_quiet_step (fail))
      refine wpQuiet_nil (wpHeadF_want rfl (fun K' hK' => ?_))
      go_wp2_with fail
      refine (bytes_any (hmw.keep hbb2) (k := (Ss.length : Int)) (by unfold i64; omega)).mono ?_
      rintro e w3 ⟨v3, rfl, hown3, hbb3⟩
      have hb23 := hbb2.trans (hbb3.mono hbb2.size)
      rw [hb2] at hown3
      obtain ⟨V3, vc3, rfl, -, -⟩ := SlB.of_own (l := []) hown3
      refine hK' _ _ rfl (fr_graft (Fr.of_below hb23 _)) ?_
      clear hK' K' hown3
      try simp only [wpSegsF]
      repeat (go_big_quiet_step (fail))
      refine wpQuiet_nil ?_
      go_wp2_with fail
      go_ret
      exact ⟨rfl, hbw.trans (hb23.mono hbw.size)⟩
end Go.Proofs.Ytpgglefimdllbaa
