/- The walks of digest.Parts and the document's Of. -/
import Derived.Test.YtjjmnkhlcgjfmaaDigChain
import Derived.OwnWalk
namespace Go.Proofs.Ytjjmnkhlcgjfmaa
open Go.RowKit
/-- a partition's events -/
def ofE (l : List Ev) (k : Int) : List Ev := l.filter fun e => e.a == k
theorem ofE_snoc (l : List Ev) (x : Ev) (k : Int) : ofE (l ++ [x]) k = ofE l k ++ (if x.a = k then [x] else []) := by
  unfold ofE
  by_cases h : x.a = k <;> simp [h]
theorem ofE_len (l : List Ev) (k : Int) : (ofE l k).length ≤ l.length := List.length_filter_le _ _
theorem ofE_ok {l : List Ev} {k : Int} (h : ∀ x ∈ l, x.ok) : ∀ x ∈ ofE l k, x.ok := fun x hx => h x (List.mem_filter.1 hx).1
theorem ev_info : (Try.prog.info? 39).map (fun i => (i.zero, i.size, i.bytes)) = some (some (.agg #[.int .i64 0, .int .i64 0, .int .i64 0, .int .i64 0, .int .i64 0, .int .i64 0]), 6, 48) := by kernel_rfl
theorem chain_info : (Try.prog.info? 45).map (fun i => (i.zero, i.size, i.bytes)) = some (some (.agg #[.int .u32 0, .int .i64 0]), 2, 16) := by kernel_rfl
theorem u32_info : (Try.prog.info? 22).map (fun i => (i.zero, i.size, i.bytes)) = some (some (.int .u32 0), 1, 4) := by kernel_rfl
theorem evs_snoc (l : List Ev) (x : Ev) : evs (l ++ [x]) = evs l ++ evC x := by simp [evs]

set_option maxRecDepth 100000 in
theorem of_any {w : World} {A : Option Addr} {n c : Nat} {l : List Ev} (hl : SlE w A n c l) (hn : n ≤ 1000) (p : Int) :
    Calls Try.prog 24 #[.slice A n c, .int .i64 p] w fun e w' => ∃ v, e = .returned v ∧ w'.ownsRow w.heap.size 39 6 v (ofE l p).length (evs (ofE l p)) ∧ Below w.heap.size w w' := by
  obtain ⟨i0, hi0, hz0, hz1, hz2⟩ := info_parts ev_info
  have hln := hl.2.1
  go_enter Try.func24, Try.ntmps24
  go_wp2_with fail
  go_loopw [5, 6] (fun v i wr => ∃ k : Nat, k ≤ n ∧ i = .int .i64 k ∧ wr.ownsRow w.heap.size 39 6 v (ofE (l.take k) p).length (evs (ofE (l.take k) p)) ∧ Below w.heap.size w wr) (fun _ i _ => n - (intOf i).toNat)
  case atStart => exact ⟨0, by omega, rfl, World.ownsRow_nil _ _ _ _, Below.refl _ _⟩
  case round =>
    obtain ⟨k, hk, rfl, hown, hbw⟩ := hrel
    have hzr := hbw.size
    by_cases hlt : k < n
    · obtain ⟨b, o, rfl, hb, h0, h1, h2, h3, h4, h5⟩ := (hl.keep hbw).at_ hlt
      have HT : Hid (ofE (l.take (k + 1)) p = ofE (l.take k) p ++ (if (atE l k).a = p then [atE l k] else [])) := by unfold Hid; rw [take_snocE l k (by omega), ofE_snoc]
      have hll := ofE_len (l.take k) p
      rw [List.length_take] at hll
      generalize ofE (l.take k) p = L at hown hll HT
      generalize atE l k = x at h0 h1 h2 h3 h4 h5 HT
      by_cases he : x.a = p
      · have he' : (x.a == p) = true := by simpa using he
        rw [if_pos he] at HT
        have HE := Lib.hid he
        clear he
        go_wp2_with (at_builtin; refine wpList_app1 wr (by rfl) _ _ 36 (by rfl) w.heap.size 39 i0 _ 6 48 Try.underlying36 hi0 hz0 hz1 hz2 rfl (by decide) (by decide) _ L.length _ (by rfl) hown #[.int .i64 x.a, .int .i64 x.b, .int .i64 x.c, .int .i64 x.d, .int .i64 x.e, .int .i64 x.f] rfl (by simp [Value.oneCell']) (by rfl) (by omega) (by omega) ?_; intro v' w2 hown2 hf2 hat2)
        exact ⟨⟨k + 1, by omega, by go_num, by rw [HT.out, evs_snoc, List.length_append]; exact hown2, hbw.trans (hf2.below (fun g hg h => own_ne hown hg h.symm) (by omega))⟩, by simp [intOf]; omega⟩
      · have he' : (x.a == p) = false := by simpa using he
        rw [if_neg he, List.append_nil] at HT
        clear he
        go_wp2_with fail
        exact ⟨⟨k + 1, by omega, by go_num, by rw [HT.out]; exact hown, hbw⟩, by simp [intOf]; omega⟩
    · obtain rfl : k = n := by omega
      have HT : Hid (l.take k = l) := List.take_of_length_le (by omega)
      rw [HT.out] at hown
      go_wp2_with fail
      go_ret
      exact ⟨_, rfl, hown, hbw⟩

/-- cells of np chains: the k-th one has heard F k -/
def chS (np : Nat) (cs : Array Value) (F : Nat → List Ev) : Prop := cs.size = np * 2 ∧ ∀ k, k < np → cs[k * 2]? = some (.int .u32 ((crc (allB (F k)) : Nat) : Int)) ∧ cs[k * 2 + 1]? = some (.int .i64 ((F k).length : Nat))
theorem chS_zero {np : Nat} {cs : Array Value} (h : cs.toList = (madeCells #[.int .u32 0, .int .i64 0] (np * 2)).toList) : chS np cs (fun _ => []) := by
  have hc : cs = madeCells #[.int .u32 0, .int .i64 0] (np * 2) := Array.toList_inj.1 h
  subst hc
  have hcr : crc (allB []) = 0 := crc_nil
  refine ⟨size_madeCells _ _, fun k hk => ⟨?_, ?_⟩⟩
  · rw [hcr]
    unfold madeCells
    rw [Array.getElem?_map, Array.getElem?_range, if_pos (by omega)]
    simp
  · unfold madeCells
    rw [Array.getElem?_map, Array.getElem?_range, if_pos (by omega)]
    simp
theorem chS_upd {np : Nat} {cs : Array Value} {F F' : Nat → List Ev} (h : chS np cs F) {p : Nat} (hp : p < np) {bs : List UInt8} {m : Nat} (hb : bs = allB (F' p)) (hm : m = (F' p).length) (hF : ∀ k, k < np → k ≠ p → F' k = F k) : chS np (chC cs (p * 2) bs m) F' := by
  subst hb hm
  obtain ⟨h1, h2⟩ := h
  have hs : p * 2 + 1 < cs.size := by omega
  refine ⟨by rw [chC_size, h1], fun k hk => ?_⟩
  by_cases hkp : k = p
  · subst hkp
    exact ⟨chC_0 hs _ _, chC_1 hs _ _⟩
  · rw [chC_far _ _ _ _ (by omega) (by omega), chC_far _ _ _ _ (by omega) (by omega), hF k hk hkp]
    exact h2 k hk
theorem chS_same {np : Nat} {cs : Array Value} {F F' : Nat → List Ev} (h : chS np cs F) (hF : ∀ k, k < np → F' k = F k) : chS np cs F' :=
  ⟨h.1, fun k hk => by rw [hF k hk]; exact h.2 k hk⟩
theorem SlE.one {w : World} {g : Nat} {t : TypeId} {x : Ev} (hb : Blk w g t #[.int .i64 x.a, .int .i64 x.b, .int .i64 x.c, .int .i64 x.d, .int .i64 x.e, .int .i64 x.f]) (hx : x.ok) : SlE w (some ⟨g, 0, none⟩) 1 1 [x] := by
  refine ⟨⟨rfl, by decide, by decide, (fun h => by cases h), fun _ => ⟨g, 0, rfl, hb.lt, fun j u hu => ?_⟩⟩, rfl, fun y hy => by rw [List.mem_singleton] at hy; subst hy; exact hx⟩
  rw [Nat.zero_add, hb.cell j, ← hu]
  simp [evs, evC]
def sumsL (l : List Ev) (np : Nat) : List Value := (List.range np).map fun k : Nat => .int .u32 ((crc (allB (ofE l (k : Int))) : Nat) : Int)
theorem sums_succ (l : List Ev) (k : Nat) : sumsL l (k + 1) = sumsL l k ++ [.int .u32 ((crc (allB (ofE l k)) : Nat) : Int)] := by simp [sumsL, List.range_succ]

set_option maxRecDepth 100000 in
set_option maxHeartbeats 4000000 in
theorem parts_any {w : World} {A : Option Addr} {n c : Nat} {l : List Ev} (hl : SlE w A n c l) (hn : n ≤ 1000) (x : Int) {np : Nat} (hnp : (np : Int) = max 0 (min x 64)) :
    Calls Try.prog 23 #[.slice A n c, .int .i64 x] w fun e w' => ∃ v, e = .returned v ∧ w'.ownsRow w.heap.size 22 1 v np (sumsL l np) ∧ Below w.heap.size w w' := by
  obtain ⟨i0, hi0, hz0, hz1, hz2⟩ := info_parts chain_info
  obtain ⟨i1, hi1, hy0, hy1, hy2⟩ := info_parts u32_info
  have hln := hl.2.1
  have hnp64 : np ≤ 64 := by omega
  go_enter Try.func23, Try.ntmps23
  have h3c : x ≤ 0 ∨ 0 < x ∧ x ≤ 64 ∨ 64 < x := by omega
  rcases h3c with hx0 | ⟨hx0, hx1⟩ | hx0
  case' inl =>
    have HL : Hid ((0 : Int) = np) := by unfold Hid; omega
    have hx1 : x ≤ 64 := by omega
    clear hnp
    go_wp2_with (first | (at_make; refine wpList_make_full w (by rfl) _ _ 69 (by rfl) w.heap.size 45 i0 _ 2 Try.underlying69 hi0 hz0 hz1 .i64 .i64 _ _ np (by rfl) (by rfl) HL.out HL.out (by rw [hz2]; omega) (by unfold maxLen; omega) (Nat.le_refl _) ?_; intro w0 hown0 hg0))
  case' inr.inl =>
    obtain rfl : x = (np : Int) := by omega
    have hx2 : 0 < np := by omega
    have HL : Hid ((np : Int) = np) := rfl
    clear hnp
    go_wp2_with (first | (at_make; refine wpList_make_full w (by rfl) _ _ 69 (by rfl) w.heap.size 45 i0 _ 2 Try.underlying69 hi0 hz0 hz1 .i64 .i64 _ _ np (by rfl) (by rfl) HL.out HL.out (by rw [hz2]; omega) (by unfold maxLen; omega) (Nat.le_refl _) ?_; intro w0 hown0 hg0))
  case' inr.inr =>
    have HL : Hid ((64 : Int) = np) := by unfold Hid; omega
    have hx1 : ¬ x ≤ 64 := by omega
    clear hnp
    go_wp2_with (first | (at_make; refine wpList_make_full w (by rfl) _ _ 69 (by rfl) w.heap.size 45 i0 _ 2 Try.underlying69 hi0 hz0 hz1 .i64 .i64 _ _ np (by rfl) (by rfl) HL.out HL.out (by rw [hz2]; omega) (by unfold maxLen; omega) (Nat.le_refl _) ?_; intro w0 hown0 hg0))
  all_goals
    have hb0 : Below w.heap.size w w0 := (Below.refl w.heap.size w).grown hg0 (Nat.le_refl _) (fun k e => by cases e)
    obtain ⟨cs0, hbk0, hch0⟩ : ∃ cs0, Blk w0 w.heap.size 45 cs0 ∧ chS np cs0 (fun _ => []) := by
      obtain ⟨hnl, hown⟩ := hown0
      rcases hown with ⟨h, _⟩ | ⟨g, cap, cur, hv, hbg, hgh, hnc, hcm, hcs, hct⟩
      · cases h
      · cases hv
        refine ⟨cur, hgh, chS_zero ?_⟩
        have hct' : cur.toList.take (np * 2) = (madeCells #[.int .u32 0, .int .i64 0] (np * 2)).toList := hct
        rw [← hct', List.take_of_length_le (by rw [Array.length_toList, hcs]; exact Nat.le_refl _)]
    clear hown0 hg0 HL
    go_loopw [16] (fun i wr => ∃ j : Nat, j ≤ n ∧ i = .int .i64 j ∧ ∃ cs, Blk wr w.heap.size 45 cs ∧ chS np cs (fun k => ofE (l.take j) (k : Int)) ∧ Below w.heap.size w wr) (fun i _ => n - (intOf i).toNat)
    case atStart => exact ⟨0, by omega, rfl, cs0, hbk0, hch0, hb0⟩
    case round =>
      obtain ⟨j, hj, rfl, cs, hbk, hch, hbw⟩ := hrel
      by_cases hlt : j < n
      · obtain ⟨b, o, rfl, hb, h0, h1, h2, h3, h4, h5⟩ := (hl.keep hbw).at_ hlt
        have hi := hl.ok hlt
        have HT : Hid (∀ k : Nat, ofE (l.take (j + 1)) (k : Int) = ofE (l.take j) (k : Int) ++ (if (atE l j).a = k then [atE l j] else [])) := fun k => by rw [take_snocE l j (by omega), ofE_snoc]
        have hlen : Hid (∀ k : Nat, (ofE (l.take j) (k : Int)).length ≤ j) := fun k => by
          have := ofE_len (l.take j) (k : Int)
          rw [List.length_take] at this
          omega
        generalize hFF : (fun k : Nat => ofE (l.take j) (k : Int)) = F at hch
        have hF : ∀ k : Nat, ofE (l.take j) (k : Int) = F k := fun k => by rw [← hFF]
        have HFF : Hid (∀ k : Nat, ofE (l.take (j + 1)) (k : Int) = F k ++ (if (atE l j).a = k then [atE l j] else [])) := fun k => by rw [HT.out k, hF k]
        have HLF : Hid (∀ k : Nat, (F k).length ≤ j) := fun k => by rw [← hF k]; exact hlen.out k
        clear HT hlen hFF hF
        generalize atE l j = e at h0 h1 h2 h3 h4 h5 hi HFF
        have hgl := hbk.lt
        by_cases hin : 0 ≤ e.a ∧ e.a < np
        · obtain ⟨hin0, hin1⟩ := hin
          obtain ⟨ea, eb, ec, ed, ee, ef⟩ := e
          simp only at h0 h1 h2 h3 h4 h5 hin0 hin1 HFF
          obtain ⟨p, rfl⟩ := Int.eq_ofNat_of_zero_le hin0
          have hpn : p < np := by omega
          have hcp := hch.2 p hpn
          have HS := Lib.hid (chC_self hcp.1 hcp.2)
          have hsz := hch.1
          have HLp := HLF.out p
          have hbA := hbk.alloc (.cells #[.int .i64 (p : Int), .int .i64 eb, .int .i64 ec, .int .i64 ed, .int .i64 ee, .int .i64 ef] 39)
          have hbE := Blk.new wr 39 #[.int .i64 (p : Int), .int .i64 eb, .int .i64 ec, .int .i64 ed, .int .i64 ee, .int .i64 ef]
          have hBA := hbw.alloc hbw.size (.cells #[.int .i64 (p : Int), .int .i64 eb, .int .i64 ec, .int .i64 ed, .int .i64 ee, .int .i64 ef] 39)
          have hpt : decide ((p : Int) < np) = true := by simp; omega
          clear hcp
          go_wp2_with fail
          generalize wr.alloc (.cells #[.int .i64 (p : Int), .int .i64 eb, .int .i64 ec, .int .i64 ed, .int .i64 ee, .int .i64 ef] 39) = w1 at hbA hbE hBA ⊢
          have hqg : ¬ wr.heap.size = w.heap.size := by omega
          generalize wr.heap.size = q at hbE hqg ⊢
          have hql := hbE.lt
          have e0 : w1.cell? ⟨q, 0, none⟩ = some (.int .i64 (p : Int)) := hbE.cell 0
          have e1 : w1.cell? ⟨q, 1, none⟩ = some (.int .i64 eb) := hbE.cell 1
          have e2 : w1.cell? ⟨q, 2, none⟩ = some (.int .i64 ec) := hbE.cell 2
          have e3 : w1.cell? ⟨q, 3, none⟩ = some (.int .i64 ed) := hbE.cell 3
          have e4 : w1.cell? ⟨q, 4, none⟩ = some (.int .i64 ee) := hbE.cell 4
          have e5 : w1.cell? ⟨q, 5, none⟩ = some (.int .i64 ef) := hbE.cell 5
          clear h0 h1 h2 h3 h4 h5 hbk hbw hgl hb
          refine wp_region_at (fun j => j = w.heap.size) [5, 0] (by kernel_rfl) (by kernel_rfl) ?_
          simp only [wpSegs, List.take, List.drop]
          repeat (go_big_quiet_step (fail))
          refine wpQuiet_nil (wpHead_want rfl (fun K' hK' => ?_))
          go_wp2_with fail
          refine hK' _ _ rfl (fr_graft (((Fr.refl _ w1).drew).alloc _)) ?_
          clear hK' K'
          try simp only [List.take, List.drop]
          repeat (go_big_quiet_step (fail))
          refine wpQuiet_nil (wpHead_want rfl (fun K' hK' => ?_))
          have hbB := hbA.alloc (.cells #[.int .i64 (p : Int), .int .i64 eb, .int .i64 ec, .int .i64 ed, .int .i64 ee, .int .i64 ef] 39)
          have hbD := Blk.new w1 39 #[.int .i64 (p : Int), .int .i64 eb, .int .i64 ec, .int .i64 ed, .int .i64 ee, .int .i64 ef]
          rw [← HS.out] at hbB
          have hgq := hbA.lt
          go_wp2_with fail
          refine (add_any (by omega) hbB.drew (SlE.one (x := ⟨(p : Int), eb, ec, ed, ee, ef⟩) hbD.drew hi) (fun b o _ h => by cases h; omega) (by decide) (by omega)).mono ?_
          rintro e w3 ⟨rfl, hb3, hf3⟩
          replace hf3 : Fr (fun j => j = w.heap.size) w1 w3 := (((Fr.refl _ w1).drew).alloc _).trans hf3
          have hB3 : Below w.heap.size w w3 := hBA.trans (hf3.below (fun k hk h => by omega) hBA.size)
          refine hK' _ _ rfl (fr_graft hf3) ?_
          clear hK' K'
          repeat (go_big_quiet_step (fail))
          refine wpQuiet_nil ?_
          go_wp2_with fail
          refine ⟨⟨j + 1, by omega, by go_num, _, hb3, chS_upd hch hpn ?_ ?_ ?_, hB3⟩, by simp [intOf]; omega⟩
          · rw [HFF.out p, if_pos rfl]
            simp [allB]
          · rw [HFF.out p, if_pos rfl]
            simp
          · intro k _ hkp
            rw [HFF.out k, if_neg (by omega), List.append_nil]
        · have hbA := hbk.alloc (.cells #[.int .i64 e.a, .int .i64 e.b, .int .i64 e.c, .int .i64 e.d, .int .i64 e.e, .int .i64 e.f] 39)
          have hBA := hbw.alloc hbw.size (.cells #[.int .i64 e.a, .int .i64 e.b, .int .i64 e.c, .int .i64 e.d, .int .i64 e.e, .int .i64 e.f] 39)
          have hno : ∀ k, k < np → ofE (l.take (j + 1)) (k : Int) = F k := fun k hk => by
            rw [HFF.out k, if_neg (by omega), List.append_nil]
          have HN := Lib.hid hno
          clear hno HFF
          by_cases hneg : e.a < 0
          · have hd : decide (0 ≤ e.a) = false := by simp; omega
            clear hin hneg
            go_wp2_with fail
            exact ⟨⟨j + 1, by omega, by go_num, _, hbA, chS_same hch HN.out, hBA⟩, by simp [intOf]; omega⟩
          · have hd : decide (0 ≤ e.a) = true := by simp; omega
            have hd2 : decide (e.a < np) = false := by simp; omega
            clear hin hneg
            go_wp2_with fail
            exact ⟨⟨j + 1, by omega, by go_num, _, hbA, chS_same hch HN.out, hBA⟩, by simp [intOf]; omega⟩
      · obtain rfl : j = n := by omega
        have HT : Hid (l.take j = l) := List.take_of_length_le (by omega)
        rw [HT.out] at hch
        clear HT
        obtain ⟨wo, rfl⟩ : ∃ wo : World, wo = wr := ⟨_, rfl⟩
        go_wp2_with fail
        go_loopw [8, 40] (fun v i wr => ∃ k : Nat, k ≤ np ∧ i = .int .i64 k ∧ wr.ownsRow wo.heap.size 22 1 v k (sumsL l k) ∧ Below wo.heap.size wo wr) (fun _ i _ => np - (intOf i).toNat)
        case atStart => exact ⟨0, by omega, rfl, World.ownsRow_nil _ _ _ _, Below.refl _ _⟩
        case round =>
          obtain ⟨k, hk, rfl, hown, hbw2⟩ := hrel
          have hsz2 := hbw2.size
          by_cases hkl : k < np
          · have hbk2 := hbk.keep hbw2
            have hck := (hbk2.cell (k * 2)).trans (hch.2 k hkl).1
            have HSS := Lib.hid (sums_succ l k)
            go_wp2_with fail
            refine (csum_any hck).mono ?_
            rintro e w3 ⟨rfl, rfl⟩
            go_wp2_with (at_builtin; refine wpList_app1 wr (by rfl) _ _ 52 (by rfl) wo.heap.size 22 i1 _ 1 4 Try.underlying52 hi1 hy0 hy1 hy2 rfl (by decide) (by decide) _ k _ (by rfl) hown #[.int .u32 ((crc (allB (ofE l (k : Int))) : Nat) : Int)] rfl (by simp [Value.oneCell']) (by rfl) (by omega) (by omega) ?_; intro v' w2 hown2 hf2 hat2)
            exact ⟨⟨k + 1, by omega, by go_num, by rw [HSS.out]; exact hown2, hbw2.trans (hf2.below (fun g hg h => own_ne hown hg h.symm) (by omega))⟩, by simp [intOf]; omega⟩
          · obtain rfl : k = np := by omega
            go_wp2_with fail
            go_ret
            exact ⟨_, rfl, own_mono hown hbw.size, hbw.trans (hbw2.mono hbw.size)⟩
end Go.Proofs.Ytjjmnkhlcgjfmaa
