/- The document's memory: Word, Put, Clear walked. -/
import Derived.Test.YtpgglefimdllbaaMrActs
namespace Go.Proofs.Ytpgglefimdllbaa
open Go.RowKit
set_option maxRecDepth 100000 in
set_option maxHeartbeats 1600000 in
theorem rword_any {w : World} {r N : Nat} {Ss : List Sg} {Bs : List (List UInt8)} (h : RefX w r N Ss Bs) {a : Int} (ha : i64 a) :
    Calls Try.prog 22 #[.pointer (some ⟨r, 0, none⟩), .int .i64 a] w fun e w' => e = .returned (.tuple #[.int .i64 (val4 (loadR Ss Bs a 4).1), .bool (loadR Ss Bs a 4).2]) ∧ Below w.heap.size w w' := by
  have hR := loadR_four Ss Bs a
  obtain ⟨R, hRd⟩ : ∃ R, R = loadR Ss Bs a 4 := ⟨_, rfl⟩
  rw [← hRd] at hR ⊢
  have HRd := Lib.hid hRd
  clear hRd
  obtain ⟨l, is⟩ := R
  simp only at hR ⊢
  go_enter Try.func22, Try.ntmps22
  go_wp2_with fail
  refine (rload_any h (n := 4) ha (by unfold i64; decide)).mono ?_
  rintro e w2 ⟨v2, rfl, hown2, hb2⟩
  rw [← HRd.out] at hown2 ⊢
  simp only at hown2 ⊢
  clear HRd
  rcases hR with ⟨rfl, rfl⟩ | ⟨rfl, x0, x1, x2, x3, rfl⟩
  · go_wp2_with fail
    go_ret2
    exact ⟨rfl, hb2⟩
  · obtain ⟨V, vc, rfl, hs, -⟩ := SlB.of_own hown2
    simp only [List.length_cons, List.length_nil, Nat.zero_add, Nat.reduceAdd] at hs ⊢
    obtain ⟨b, o, rfl, hbl, -⟩ := hs.at_ (k := 0) (by decide)
    have e0 : w2.cell? ⟨b, o, none⟩ = some (.int .u8 (x0.toNat : Int)) := by obtain ⟨b', o', e, _, hc⟩ := hs.at_ (k := 0) (by decide); cases e; simpa [atB] using hc
    have e1 : w2.cell? ⟨b, o + 1, none⟩ = some (.int .u8 (x1.toNat : Int)) := by obtain ⟨b', o', e, _, hc⟩ := hs.at_ (k := 1) (by decide); cases e; simpa [atB] using hc
    have e2 : w2.cell? ⟨b, o + 2, none⟩ = some (.int .u8 (x2.toNat : Int)) := by obtain ⟨b', o', e, _, hc⟩ := hs.at_ (k := 2) (by decide); cases e; simpa [atB] using hc
    have e3 : w2.cell? ⟨b, o + 3, none⟩ = some (.int .u8 (x3.toNat : Int)) := by obtain ⟨b', o', e, _, hc⟩ := hs.at_ (k := 3) (by decide); cases e; simpa [atB] using hc
    have HV : Hid (val4 [x0, x1, x2, x3] = (x0.toNat : Int) + 256 * x1.toNat + 65536 * x2.toNat + 16777216 * x3.toNat) := rfl
    have z0 := u8_lt x0; have z1 := u8_lt x1; have z2 := u8_lt x2; have z3 := u8_lt x3
    generalize x0.toNat = n0 at *
    generalize x1.toNat = n1 at *
    generalize x2.toNat = n2 at *
    generalize x3.toNat = n3 at *
    go_wp2_with (go_quiet (fail))
    go_ret2
    exact ⟨by rw [HV.out]; rfl, ((Fr.of_below hb2 (fun _ => False)).drewN _).below (fun _ _ h => h) (Nat.le_refl _)⟩
theorem u64_bytes (n : Int) : IntKind.u64.wrap n % 256 = n % 256 ∧ IntKind.u64.wrap n / 256 % 256 = n / 256 % 256 ∧ IntKind.u64.wrap n / 65536 % 256 = n / 65536 % 256 ∧ IntKind.u64.wrap n / 16777216 % 256 = n / 16777216 % 256 := by
  rw [IntKind.wrap_u64]
  omega
set_option maxRecDepth 100000 in
theorem rput_any {w : World} {r N : Nat} {Ss : List Sg} {Bs : List (List UInt8)} (h : RefX w r N Ss Bs) {a n : Int} (ha : i64 a) :
    Calls Try.prog 23 #[.pointer (some ⟨r, 0, none⟩), .int .i64 a, .int .i64 n] w fun e w' => e = .returned (.bool (storeR Ss Bs a (putB n)).2) ∧ RefX w' r N Ss (storeR Ss Bs a (putB n)).1 ∧ Fr (fun j => N ≤ j) w w' := by
  obtain ⟨u0, u1, u2, u3⟩ := u64_bytes n
  have hu : 0 ≤ IntKind.u64.wrap n ∧ IntKind.u64.wrap n < 18446744073709551616 := by rw [IntKind.wrap_u64]; omega
  have hpb := putB_bv n
  rw [← u0, ← u1, ← u2, ← u3] at hpb
  clear u0 u1 u2 u3
  obtain ⟨u, hwu⟩ : ∃ u, IntKind.u64.wrap n = u := ⟨_, rfl⟩
  rw [hwu] at hu hpb
  obtain ⟨m, rfl⟩ : ∃ m : Nat, u = m := ⟨u.toNat, by omega⟩
  obtain ⟨hu1, hu2⟩ := hu
  go_enter Try.func23, Try.ntmps23
  go_wp2_with fail
  have hb1 := (Below.refl w.heap.size w).alloc (Nat.le_refl _) (.cells #[.int .u8 ((m : Int) % 256), .int .u8 ((m : Int) / 256 % 256), .int .u8 ((m : Int) / 65536 % 256), .int .u8 ((m : Int) / 16777216 % 256)] 5)
  have b1 := Blk.new w 5 #[.int .u8 ((m : Int) % 256), .int .u8 ((m : Int) / 256 % 256), .int .u8 ((m : Int) / 65536 % 256), .int .u8 ((m : Int) / 16777216 % 256)]
  generalize w.alloc (.cells #[.int .u8 ((m : Int) % 256), .int .u8 ((m : Int) / 256 % 256), .int .u8 ((m : Int) / 65536 % 256), .int .u8 ((m : Int) / 16777216 % 256)] 5) = w1 at hb1 b1 ⊢
  have hsl : SlB w1 (some ⟨w.heap.size, 0, none⟩) 4 4 (putB n) := SlB.of_blk b1 (putB n) (by rw [hpb]) (by show 4 ≤ 1000000; decide)
  refine (rstore_any (h.keep hb1) ha hsl).mono ?_
  rintro e w3 ⟨rfl, hx, f3⟩
  go_wp2_with fail
  go_ret
  exact ⟨rfl, hx, (Fr.of_below hb1 _).trans f3⟩
theorem z0_zl (l : List UInt8) (n : Nat) (h : l.length = n) : ((zl l).map bv).toArray = madeCells #[.int .u8 0] n := by
  rw [made_one, zl_map, h]
  simp
set_option maxRecDepth 100000 in
set_option maxHeartbeats 3200000 in
theorem rclear_any {w : World} {r N : Nat} {Ss : List Sg} {Bs : List (List UInt8)} (h : RefX w r N Ss Bs) :
    Calls Try.prog 24 #[.pointer (some ⟨r, 0, none⟩)] w fun e w' => e = .returned (.tuple #[]) ∧ RefX w' r N Ss (Bs.map zl) ∧ Fr (fun j => N ≤ j) w w' := by
  have hBl : Bs.length = Ss.length := by obtain ⟨_, _, _, _, _, _, _, _, h4, _⟩ := h; exact h4
  have hS4 : Ss.length ≤ 4 := by obtain ⟨_, _, _, _, _, _, _, _, _, _, h6, _⟩ := h; exact h6
  go_enter Try.func24, Try.ntmps24
  go_wp2_with fail
  obtain ⟨wo, rfl⟩ : ∃ wo : World, wo = w := ⟨_, rfl⟩
  go_loopw [2] (fun i wr => ∃ k : Nat, k ≤ Ss.length ∧ i = .int .i64 (k : Int) ∧ RefX wr r N Ss (clrK Bs k) ∧ Fr (fun j => N ≤ j) wo wr) (fun i _ => Ss.length - (intOf i).toNat)
  case atStart => exact ⟨0, by omega, rfl, h, Fr.refl _ _⟩
  case round =>
    obtain ⟨k, hk, rfl, hx, hf⟩ := hrel
    by_cases hlt : k < Ss.length
    · have hlt' : (k : Int) < (Ss.length : Int) := by omega
      obtain ⟨ob, c2, X, r1, x0, hs, h256, hfz, hN, hob, hrl, hor, hupd⟩ := hx.opened hlt
      obtain ⟨hst, -⟩ := clrK_step Bs k (by omega)
      have HUP := Lib.hid hupd
      clear hupd h hx
      have hXl := hs.2
      have hz := z0_zl (atD [] (clrK Bs k) k) X.n hXl
      have hzl : (zl (atD [] (clrK Bs k) k)).length = X.n := by simp [zl, hXl]
      have hmk := run_make_row' (P := Try.prog) 39 5 (.int .u8 0) 1 u_by byte_info rfl .i64 .i64 X.n (by omega) (by omega)
      obtain ⟨cs, hcs⟩ : ∃ cs, cs = madeCells #[.int .u8 0] X.n := ⟨_, rfl⟩
      rw [← hcs] at hmk hz
      clear hcs
      go_wp2_with fail
      refine wp_region_fen (fun _ => False) [(13, 0), (1, 2)] (by kernel_rfl) (by kernel_rfl) ?_
      simp only [wpSegsF, List.take, List.drop]
      repeat (go_big_quiet_step (fail))
      refine wpQuiet_nil (wpHeadF_want rfl (fun K' hK' => ?_))
      go_wp2_with fail
      refine hK' _ _ rfl (fr_graft (((Fr.refl (fun _ => False) wr).alloc _).drew)) ?_
      clear hK' K' hmk
      have bq : Blk (wr.alloc (.cells cs 5)).drew wr.heap.size 5 cs := Blk.new wr _ _
      have hbq : Below wr.heap.size wr (wr.alloc (.cells cs 5)).drew := ((Below.refl _ wr).alloc (Nat.le_refl _) _).drew
      generalize (wr.alloc (.cells cs 5)).drew = wq at bq hbq ⊢
      have hq0 : wq.cell? ⟨ob, k, none⟩ = some (.slice X.A X.n X.c) := ((bcell hbq).1 _ _ hob).trans x0
      have hqf : ∀ i, wq.frozen? ⟨ob, i, none⟩ = false := fun i => ((bcell hbq).2 _ i hob).trans (hfz i)
      have hqr : wq.cell? ⟨r, 1, none⟩ = some (.slice (some ⟨ob, 0, none⟩) Ss.length c2) := ((bcell hbq).1 _ _ hrl).trans r1
      try simp only [List.take, List.drop]
      repeat (go_big_quiet_step (fail))
      refine wpQuiet_nil (wpHeadF_bar rfl (fun K' hK' => ?_))
      go_wp2_with fail
      refine hK' _ _ (fun _ => False) rfl ?_
      try simp only [wpSegsF]
      repeat (go_big_quiet_step (fail))
      refine wpQuiet_nil ?_
      rw [← hz] at bq
      have hsl := SlB.of_whole bq (by rw [hzl]; omega)
      rw [hzl] at hsl
      have hx2 := HUP.out wq ⟨some ⟨wr.heap.size, 0, none⟩, X.n, X.n⟩ _ hbq hsl (by rw [hzl]; omega) (fun b o _ e => by cases e; exact Nat.le_refl _)
      rw [hst] at hx2
      have f2 : Fr (fun j => N ≤ j) wr (wq.setCell ⟨ob, k, none⟩ (.slice (some ⟨wr.heap.size, 0, none⟩) X.n X.n)) := Fr.setCell (S := fun j => N ≤ j) (Fr.of_below hbq _) (p := ⟨ob, k, none⟩) (fun _ => hN) _
      go_wp2_with fail
      exact ⟨⟨k + 1, by omega, by go_num, hx2, hf.trans f2⟩, by simp [intOf]; omega⟩
    · obtain rfl : k = Ss.length := by omega
      have he : clrK Bs Ss.length = Bs.map zl := by
        unfold clrK
        rw [← hBl, List.take_length, List.drop_length, List.append_nil]
      rw [he] at hx
      obtain ⟨A1, c1, A2, c2, XS, h1, hrest⟩ := id hx
      have r1 : wr.cell? ⟨r, 1, none⟩ = some (.slice A2 Ss.length c2) := h1.cell 1
      clear h1 hrest
      go_wp2_with fail
      go_end0
      exact ⟨rfl, hx, hf⟩
end Go.Proofs.Ytpgglefimdllbaa
