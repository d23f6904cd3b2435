/- The law DigestChains returns true whatever the input. -/
import Derived.Test.YtjjmnkhlcgjfmaaDigChain
import Derived.Test.YtjjmnkhlcgjfmaaDigWorks
namespace Go.Proofs.Ytjjmnkhlcgjfmaa
open Go.RowKit
theorem drop_take_app (l : List Ev) {a b : Nat} (h : a ≤ b) : allB (l.take a) ++ allB ((l.drop a).take (b - a)) = allB (l.take b) := by
  unfold allB
  rw [← List.flatMap_append, show l.take a ++ (l.drop a).take (b - a) = l.take b from by
    rw [← List.take_add, Nat.add_sub_cancel' h]]
theorem u6 : Try.prog.underlying 36 = some (.slice (Try.prog.elem 36)) := by kernel_rfl
theorem size6 (w : World) : (sizeOf (Try.prog.elem 36)).run Try.prog w = .ok 6 w := by kernel_rfl

set_option maxRecDepth 100000 in
set_option maxHeartbeats 4000000 in
theorem digestChains_law {w : World} {A : Option Addr} {n c : Nat} {l : List Ev} (hl : SlE w A n c l) {B : Option Addr} {m d : Nat} {cu : List UInt8} (hcu : SlB w B m d cu) :
    Calls Try.prog 6 #[.slice A n c, .slice B m d] w fun e w' => e = .returned (.bool true) ∧ Below w.heap.size w w' := by
  have hln := hl.2.1
  have hcl := hcu.2
  have hn := hl.len
  have hm := hcu.len
  have hnc := hl.1.2.1
  by_cases h1 : (300 : Int) < n
  · go_enter Try.func6, Try.ntmps6
    go_wp2_with fail
    refine (works_any _).mono ?_
    rintro e w2 ⟨rfl, hb2⟩
    go_wp2_with fail
    go_ret
    exact ⟨rfl, hb2⟩
  · have h1' : decide ((300 : Int) < n) = false := by simpa using h1
    have h3 : n ≤ 300 := by omega
    have hb0 := (Below.refl w.heap.size w).alloc (Nat.le_refl _) (.cells #[.int .u32 0, .int .i64 0] 45)
    have hc0 := chain_new w
    go_enter Try.func6, Try.ntmps6
    go_wp2_with fail
    generalize w.alloc (.cells #[.int .u32 0, .int .i64 0] 45) = w1 at hb0 hc0 ⊢
    have hgA : ∀ lo s b o, lo < n → slA A lo c s = some ⟨b, o, none⟩ → b ≠ w.heap.size := fun lo s b o hp e h => by
      obtain ⟨b', o', rfl, hb', _⟩ := hl.1.at_ (by omega)
      unfold slA at e
      rw [if_neg (by omega)] at e
      simp [add_none] at e
    go_loopw [6, 7] (fun v i wr => ∃ k at_ : Nat, k ≤ m ∧ at_ ≤ n ∧ i = .int .i64 k ∧ v = .int .i64 at_ ∧ Blk wr w.heap.size 45 (chC ch0 0 (allB (l.take at_)) at_) ∧ Below w.heap.size w wr) (fun _ i _ => m - (intOf i).toNat)
    case atStart => exact ⟨0, 0, by omega, by omega, rfl, rfl, by simpa [allB] using hc0, hb0⟩
    case round =>
      obtain ⟨k, p, hk, hp, rfl, rfl, hbk, hbw⟩ := hrel
      have hlw := hl.keep hbw
      by_cases hgo : k < m ∧ p < n
      · obtain ⟨hkm, hpn⟩ := hgo
        obtain ⟨b, o, rfl, hb, hck⟩ := (hcu.keep hbw).at_ hkm
        have hx := u8_lt (atB cu k)
        generalize (atB cu k).toNat = x at hck hx
        by_cases hto : n ≤ p + x % 9
        · have hsl := fun w => run_cut_lh u6 size6 w A n c p n (by omega) hnc
          have hto' : (n : Int) ≤ (p : Int) + (x : Int) % 9 := by omega
          have hsh := fun w => run_cut_h u6 size6 w A n c n (by omega)
          have hqn : n ≤ n := by omega
          have hcast : ((n : Nat) : Int) = (n : Int) := by simp
          try simp only [hcast] at hsl hsh
          clear hcast
          go_wp2_with fail
          have hcut : SlE wr (slA A p c 6) (n - p) (c - p) ((l.drop p).take (n - p)) := by
            have := hlw.cut (lo := p) (hi := n) (by omega) hqn
            rw [show n - p = n - p by omega] at this
            exact this
          have HJ : Hid (allB (l.take p) ++ allB ((l.drop p).take (n - p)) = allB (l.take (n))) := by
            have := drop_take_app l (a := p) (b := n) (by omega)
            rw [show n - p = n - p by omega] at this
            exact this
          refine (add_any (by decide) hbk hcut (fun b o _ e => hgA p 6 b o hpn e) (by omega) (by omega)).mono ?_
          rintro e w2 ⟨rfl, hb2, hf2⟩
          rw [HJ.out, show p + (n - p) = n by omega] at hb2
          have hB2 := hbw.trans (hf2.below (fun k hk h => by omega) hbw.size)
          have hl2 := hl.keep hB2
          have d0 : w2.cell? ⟨w.heap.size, 0, none⟩ = some (.int .u32 ((crc (allB (l.take (n))) : Nat) : Int)) := (hb2.cell 0).trans (chC_0 (by decide) _ _)
          have d1 : w2.cell? ⟨w.heap.size, 0 + 1, none⟩ = some (.int .i64 (n : Int)) := by
            have := (hb2.cell (0 + 1)).trans (chC_1 (by decide) _ _)
            simpa using this
          have hcut2 : SlE w2 (slA A 0 c 6) (n) c (l.take (n)) := by
            have := hl2.cut (lo := 0) (hi := n) (by omega) hqn
            simpa using this
          clear hbk hbw HJ hcut hf2
          go_wp2_with fail
          refine wp_region_at (fun _ => False) [1, 4, 3, 0] (by kernel_rfl) (by kernel_rfl) ?_
          simp only [wpSegs, List.take, List.drop]
          repeat (go_big_quiet_step (fail))
          refine wpQuiet_nil (wpHead_want rfl (fun K' hK' => ?_))
          go_wp2_with fail
          refine (clen_any (w := w2.drew) d1).mono ?_
          rintro e w3 ⟨rfl, rfl⟩
          refine hK' _ _ rfl (fr_graft ((Fr.refl _ w2).drew)) ?_
          clear hK' K'
          try simp only [List.take, List.drop]
          repeat (go_big_quiet_step (fail))
          refine wpQuiet_nil (wpHead_want rfl (fun K' hK' => ?_))
          go_wp2_with fail
          refine (csum_any (w := w2.drew) d0).mono ?_
          rintro e w3 ⟨rfl, rfl⟩
          refine hK' _ _ rfl (fr_graft ((Fr.refl _ w2).drew)) ?_
          clear hK' K'
          try simp only [List.take, List.drop]
          repeat (go_big_quiet_step (fail))
          refine wpQuiet_nil (wpHead_want rfl (fun K' hK' => ?_))
          go_wp2_with fail
          refine (refAll_any (w := w2.drew) hcut2 (by omega)).mono ?_
          rintro e w3 ⟨v3, rfl, hown3, hb3⟩
          replace hb3 : Below w2.heap.size w2 w3 := (Below.drew (Below.refl _ w2)).trans hb3
          obtain ⟨A3, c3, rfl, hs3, -⟩ := SlB.of_own hown3
          refine hK' _ _ rfl (fr_graft (Fr.of_below hb3 _)) ?_
          clear hK' K'
          try simp only [List.take, List.drop]
          repeat (go_big_quiet_step (fail))
          refine wpQuiet_nil (wpHead_want rfl (fun K' hK' => ?_))
          go_wp2_with fail
          refine (refSum_any hs3).mono ?_
          rintro e w4 ⟨rfl, rfl⟩
          refine hK' _ _ rfl (fr_graft (Fr.of_below hb3 _)) ?_
          clear hK' K'
          repeat (go_big_quiet_step (fail))
          refine wpQuiet_nil ?_
          go_wp2_with fail
          exact ⟨⟨k + 1, n, by omega, by omega, by go_num, by simp, hb2.keep hb3, hB2.trans (hb3.mono hB2.size)⟩, by simp [intOf]; omega⟩
        · have hsl := fun w => run_cut_lh u6 size6 w A n c p (p + x % 9) (by omega) (by omega)
          have hto' : ¬ (n : Int) ≤ (p : Int) + (x : Int) % 9 := by omega
          have hsh := fun w => run_cut_h u6 size6 w A n c (p + x % 9) (by omega)
          have hqn : p + x % 9 ≤ n := by omega
          have hcast : ((p + x % 9 : Nat) : Int) = (p : Int) + (x : Int) % 9 := by simp
          try simp only [hcast] at hsl hsh
          clear hcast
          go_wp2_with fail
          have hcut : SlE wr (slA A p c 6) (x % 9) (c - p) ((l.drop p).take (x % 9)) := by
            have := hlw.cut (lo := p) (hi := p + x % 9) (by omega) hqn
            rw [show p + x % 9 - p = x % 9 by omega] at this
            exact this
          have HJ : Hid (allB (l.take p) ++ allB ((l.drop p).take (x % 9)) = allB (l.take (p + x % 9))) := by
            have := drop_take_app l (a := p) (b := p + x % 9) (by omega)
            rw [show p + x % 9 - p = x % 9 by omega] at this
            exact this
          refine (add_any (by decide) hbk hcut (fun b o _ e => hgA p 6 b o hpn e) (by omega) (by omega)).mono ?_
          rintro e w2 ⟨rfl, hb2, hf2⟩
          rw [HJ.out, show p + (x % 9) = p + x % 9 by omega] at hb2
          have hB2 := hbw.trans (hf2.below (fun k hk h => by omega) hbw.size)
          have hl2 := hl.keep hB2
          have d0 : w2.cell? ⟨w.heap.size, 0, none⟩ = some (.int .u32 ((crc (allB (l.take (p + x % 9))) : Nat) : Int)) := (hb2.cell 0).trans (chC_0 (by decide) _ _)
          have d1 : w2.cell? ⟨w.heap.size, 0 + 1, none⟩ = some (.int .i64 ((p : Int) + (x : Int) % 9)) := by
            have := (hb2.cell (0 + 1)).trans (chC_1 (by decide) _ _)
            simpa using this
          have hcut2 : SlE w2 (slA A 0 c 6) (p + x % 9) c (l.take (p + x % 9)) := by
            have := hl2.cut (lo := 0) (hi := p + x % 9) (by omega) hqn
            simpa using this
          clear hbk hbw HJ hcut hf2
          go_wp2_with fail
          refine wp_region_at (fun _ => False) [1, 4, 3, 0] (by kernel_rfl) (by kernel_rfl) ?_
          simp only [wpSegs, List.take, List.drop]
          repeat (go_big_quiet_step (fail))
          refine wpQuiet_nil (wpHead_want rfl (fun K' hK' => ?_))
          go_wp2_with fail
          refine (clen_any (w := w2.drew) d1).mono ?_
          rintro e w3 ⟨rfl, rfl⟩
          refine hK' _ _ rfl (fr_graft ((Fr.refl _ w2).drew)) ?_
          clear hK' K'
          try simp only [List.take, List.drop]
          repeat (go_big_quiet_step (fail))
          refine wpQuiet_nil (wpHead_want rfl (fun K' hK' => ?_))
          go_wp2_with fail
          refine (csum_any (w := w2.drew) d0).mono ?_
          rintro e w3 ⟨rfl, rfl⟩
          refine hK' _ _ rfl (fr_graft ((Fr.refl _ w2).drew)) ?_
          clear hK' K'
          try simp only [List.take, List.drop]
          repeat (go_big_quiet_step (fail))
          refine wpQuiet_nil (wpHead_want rfl (fun K' hK' => ?_))
          go_wp2_with fail
          refine (refAll_any (w := w2.drew) hcut2 (by omega)).mono ?_
          rintro e w3 ⟨v3, rfl, hown3, hb3⟩
          replace hb3 : Below w2.heap.size w2 w3 := (Below.drew (Below.refl _ w2)).trans hb3
          obtain ⟨A3, c3, rfl, hs3, -⟩ := SlB.of_own hown3
          refine hK' _ _ rfl (fr_graft (Fr.of_below hb3 _)) ?_
          clear hK' K'
          try simp only [List.take, List.drop]
          repeat (go_big_quiet_step (fail))
          refine wpQuiet_nil (wpHead_want rfl (fun K' hK' => ?_))
          go_wp2_with fail
          refine (refSum_any hs3).mono ?_
          rintro e w4 ⟨rfl, rfl⟩
          refine hK' _ _ rfl (fr_graft (Fr.of_below hb3 _)) ?_
          clear hK' K'
          repeat (go_big_quiet_step (fail))
          refine wpQuiet_nil ?_
          go_wp2_with fail
          exact ⟨⟨k + 1, p + x % 9, by omega, by omega, by go_num, by simp, hb2.keep hb3, hB2.trans (hb3.mono hB2.size)⟩, by simp [intOf]; omega⟩
      · have hend : (p = n ∧ k < m) ∨ m = k := by omega
        have hd0 : wr.cell? ⟨w.heap.size, 0, none⟩ = some (.int .u32 ((crc (allB (l.take p)) : Nat) : Int)) := (hbk.cell 0).trans (chC_0 (by decide) _ _)
        have hsl := fun w => run_cut_l u6 size6 w A n c p hp
        have hcut : SlE wr (slA A p c 6) (n - p) (c - p) ((l.drop p).take (n - p)) := hlw.cut (lo := p) (hi := n) hp (Nat.le_refl _)
        have HJ : Hid (allB (l.take p) ++ allB ((l.drop p).take (n - p)) = allB l) := by
          have := drop_take_app l (a := p) (b := n) hp
          rw [List.take_of_length_le (show l.length ≤ n by omega)] at this
          exact this
        have hgA2 : ∀ b o, 0 < n - p → slA A p c 6 = some ⟨b, o, none⟩ → b ≠ w.heap.size := fun b o h e => hgA p 6 b o (by omega) e
        clear hgo
        rcases hend with hend | hend
        case' inl =>
          obtain ⟨rfl, hk2⟩ := hend
          rw [Nat.sub_self] at hcut HJ hgA2
          simp only [Nat.sub_self] at hsl
        case' inr =>
          subst hend
        all_goals
          go_wp2_with fail
          refine (add_any (by decide) hbk hcut hgA2 (by omega) (by omega)).mono ?_
          rintro e w2 ⟨rfl, hb2, hf2⟩
          first | rw [HJ.out, Nat.add_sub_cancel' hp] at hb2 | rw [HJ.out, Nat.add_zero] at hb2
          have hB2 := hbw.trans (hf2.below (fun k hk h => by omega) hbw.size)
          have hl2 := hl.keep hB2
          have d0 : w2.cell? ⟨w.heap.size, 0, none⟩ = some (.int .u32 ((crc (allB l) : Nat) : Int)) := (hb2.cell 0).trans (chC_0 (by decide) _ _)
          clear hbk hbw HJ hcut hf2 hd0 hsl hgA hgA2
          go_wp2_with fail
          refine add_nil.mono ?_
          rintro e w3 ⟨rfl, rfl⟩
          go_wp2_with fail
          refine (csum_any d0).mono ?_
          rintro e w3 ⟨rfl, rfl⟩
          go_wp2_with fail
          refine (events_any hl2 (by omega)).mono ?_
          rintro e w3 ⟨rfl, hb3⟩
          have hb23 := hb2.keep hb3
          have d1 := (hb23.cell (0 + 1)).trans (chC_1 (by decide) _ _)
          have hB3 := hB2.trans (hb3.mono hB2.size)
          go_wp2_with fail
          refine (clen_any d1).mono ?_
          rintro e w4 ⟨rfl, rfl⟩
          go_wp2_with fail
          refine csum_nil.mono ?_
          rintro e w4 ⟨rfl, rfl⟩
          go_wp2_with fail
          refine clen_nil.mono ?_
          rintro e w4 ⟨rfl, rfl⟩
          go_wp2_with fail
          refine (works_any _).mono ?_
          rintro e w4 ⟨rfl, hb4⟩
          go_wp2_with fail
          go_ret
          exact ⟨rfl, hB3.trans (hb4.mono hB3.size)⟩
end Go.Proofs.Ytjjmnkhlcgjfmaa
