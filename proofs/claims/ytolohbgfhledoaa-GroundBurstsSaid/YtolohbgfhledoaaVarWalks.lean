/- The walks of the writer of numbers (package wire) and of the document's. -/
import Derived.Test.YtolohbgfhledoaaMix
import Derived.Test.YtolohbgfhledoaaVarSpec
import Derived.Lib.SliceRun
import Derived.Test.YtolohbgfhledoaaProg
namespace Go.Proofs.Ytolohbgfhledoaa
open Go.RowKit
theorem byte_info : (Try.prog.info? 5).map (fun i => (i.zero, i.size, i.bytes)) = some (some (.int .u8 0), 1, 1) := by kernel_rfl

theorem not64 {q : Nat} (hq : q < 18446744073709551616) : q ^^^ 18446744073709551615 = 18446744073709551615 - q := by
  have h := BitVec.toNat_not (x := BitVec.ofNat 64 q)
  rw [← BitVec.xor_allOnes, BitVec.toNat_xor] at h
  simp [Nat.mod_eq_of_lt hq] at h
  rw [h]
theorem turn_neg {n : Int} (h : n < 0) (h2 : -9223372036854775808 ≤ n) : bits .xor .u64 (IntKind.u64.wrap (IntKind.u64.wrap n * 2)) (IntKind.u64.wrap (n / 9223372036854775808)) = ((tnd n : Nat) : Int) := by
  have h1 : n / 9223372036854775808 = -1 := by omega
  rw [h1, IntKind.wrap_u64, IntKind.wrap_u64, IntKind.wrap_u64]
  have h3 : n % 18446744073709551616 * 2 % 18446744073709551616 = (((n * 2 + 18446744073709551616).toNat : Nat) : Int) := by omega
  have h4 : (-1 : Int) % 18446744073709551616 = ((18446744073709551615 : Nat) : Int) := by decide
  rw [h3, h4, u64_xor_nat _ _ (by omega) (by decide), not64 (by omega)]
  unfold tnd
  rw [if_pos h]
  omega
theorem turn_pos {n : Int} (h : 0 ≤ n) (h2 : n ≤ 9223372036854775807) : bits .xor .u64 (n * 2) (n / 9223372036854775808) = ((tnd n : Nat) : Int) := by
  have h1 : n / 9223372036854775808 = ((0 : Nat) : Int) := by omega
  have h3 : n * 2 = (((n * 2).toNat : Nat) : Int) := by omega
  rw [h1, h3, u64_xor_nat _ _ (by omega) (by decide), Nat.xor_zero]
  unfold tnd
  rw [if_neg (by omega)]

theorem turned_any {w : World} {n : Int} (hn : i64 n) :
    Calls Try.prog 50 #[.int .i64 n] w fun e w' => e = .returned (.int .u64 ((tnd n : Nat) : Int)) ∧ w = w' := by
  unfold i64 at hn
  by_cases h : n < 0
  · have HT := Lib.hid (turn_neg h hn.1)
    go_enter Try.func50, Try.ntmps50
    go_wp2_with fail
    go_ret
    exact ⟨by rw [← HT.out]; rfl, rfl⟩
  · have HT := Lib.hid (turn_pos (by omega) hn.2)
    go_enter Try.func50, Try.ntmps50
    go_wp2_with fail
    go_ret
    exact ⟨by rw [← HT.out]; rfl, rfl⟩

/-- the document's bytes of a number -/
theorem ob_more (x : Nat) : bv (ob (x % 128 + 128)) = Value.int .u8 ((x : Int) % 128 + 128) := by
  unfold bv
  rw [ob_toNat (by omega)]
  simp
theorem ob_one (x : Nat) (hx : x < 256) : ([ob x].map bv) = [Value.int .u8 (x : Int)] := by
  simp [bv, ob_toNat hx]
set_option maxRecDepth 100000 in
theorem refInt_any {w : World} {n : Int} (hn : i64 n) :
    Calls Try.prog 41 #[.int .i64 n] w fun e w' => ∃ v, e = .returned v ∧ w'.ownsRow w.heap.size 5 1 v (vint n).length ((vint n).map bv) ∧ Below w.heap.size w w' := by
  obtain ⟨i0, hi0, hz0, hz1, hz2⟩ := info_parts byte_info
  have hlt := tnd_lt hn
  unfold i64 at hn
  have hneg : Hid (n < 0 → -(n + 1) * 2 + 1 = ((tnd n : Nat) : Int)) := by
    unfold Hid
    intro h
    unfold tnd
    rw [if_pos h]
    omega
  have hpos : Hid (0 ≤ n → n * 2 = ((tnd n : Nat) : Int)) := by
    unfold Hid
    intro h
    unfold tnd
    rw [if_neg (by omega)]
    omega
  have HV : Hid (vint n = vb 10 (tnd n)) := rfl
  go_enter Try.func41, Try.ntmps41
  by_cases h : n < 0
  case' pos =>
    go_wp2_with fail
    rw [hneg.out h]
  case' neg =>
    go_wp2_with fail
    rw [hpos.out (by omega)]
  all_goals
    clear hpos hneg
    generalize tnd n = u0 at hlt HV ⊢
    have hu0 : u0 < 128 ^ 11 := Nat.lt_of_lt_of_le hlt (by decide)
    go_loopw [3, 4, 5] (fun u out i wr => ∃ (k uu : Nat) (dn : List UInt8), k ≤ 10 ∧ i = .int .i64 k ∧ u = .int .u64 (uu : Int) ∧ uu < 18446744073709551616 ∧ uu < 128 ^ (11 - k) ∧ dn.length = k ∧ Hid (vint n = dn ++ vb (10 - k) uu) ∧ wr.ownsRow w.heap.size 5 1 out k (dn.map bv) ∧ Below w.heap.size w wr) (fun _ _ i _ => 10 - (intOf i).toNat)
    case atStart => exact ⟨0, u0, [], by omega, rfl, rfl, hlt, hu0, rfl, HV, World.ownsRow_nil _ _ _ _, Below.refl _ _⟩
    case round =>
      obtain ⟨k, uu, dn, hk, rfl, rfl, hul, hub, hdl, HD, hown, hbw⟩ := hrel
      have hsz := hbw.size
      by_cases hgo : k < 10 ∧ 128 ≤ uu
      · obtain ⟨h10, h128⟩ := hgo
        have hbd : uu / 128 < 128 ^ (11 - (k + 1)) := Nat.div_lt_of_lt_mul (by rw [Nat.mul_comm, ← Nat.pow_succ, show (11 - (k + 1)).succ = 11 - k by omega]; exact hub)
        have HD2 : Hid (vint n = (dn ++ [ob (uu % 128 + 128)]) ++ vb (10 - (k + 1)) (uu / 128)) := by
          unfold Hid
          rw [HD.out, show 10 - k = (10 - (k + 1)) + 1 by omega, vb_more h128, List.append_assoc]
          rfl
        have hbl := (Below.refl wr.heap.size wr).alloc (Nat.le_refl _) (.cells #[.int .u8 ((uu : Int) % 128 + 128)] 5)
        go_wp2_with (at_builtin; refine wpList_app1 wr (by rfl) _ _ 24 (by rfl) w.heap.size 5 i0 _ 1 1 Try.underlying24 hi0 hz0 hz1 hz2 rfl (by decide) (by decide) _ k _ (by rfl) hown #[.int .u8 ((uu : Int) % 128 + 128)] rfl (by simp [Value.oneCell']) (by rfl) (by omega) (by omega) ?_; intro v' w2 hown2 hf2 hat2)
        exact ⟨⟨k + 1, uu / 128, dn ++ [ob (uu % 128 + 128)], by omega, by go_num, by simp, by omega, hbd, by simp [hdl], HD2, by rw [List.map_append, List.map_cons, List.map_nil, ob_more]; exact hown2, hbw.trans (hf2.below (fun g hg h => own_ne hown (by omega) h.symm) (by omega))⟩, by simp [intOf]; omega⟩
      · have h128 : uu < 128 := by
          by_cases h10 : k < 10
          · omega
          · obtain rfl : k = 10 := by omega
            simpa using hub
        have HD2 : Hid (vint n = dn ++ [ob uu]) := by unfold Hid; rw [HD.out, vb_last h128]
        have hlen : (vint n).length = k + 1 := by rw [HD2.out]; simp [hdl]
        have hend : (decide ((k : Int) < 10) = true ∧ decide ((128 : Int) ≤ uu) = false) ∨ decide ((k : Int) < 10) = false := by
          by_cases h10 : k < 10
          · exact .inl ⟨by simp; omega, by simp; omega⟩
          · exact .inr (by simp; omega)
        clear hgo
        rcases hend with ⟨hk1, hk2⟩ | hk1
        all_goals
          go_wp2_with (at_builtin; refine wpList_app1 wr (by rfl) _ _ 24 (by rfl) w.heap.size 5 i0 _ 1 1 Try.underlying24 hi0 hz0 hz1 hz2 rfl (by decide) (by decide) _ k _ (by rfl) hown #[.int .u8 (uu : Int)] rfl (by simp [Value.oneCell']) (by rfl) (by omega) (by omega) ?_; intro v' w2 hown2 hf2 hat2)
          go_ret
          exact ⟨v', rfl, by rw [HD2.out, List.map_append, ob_one _ (by omega)]; exact hown2, hbw.trans (hf2.below (fun g hg h => own_ne hown (by omega) h.symm) (by omega))⟩

/-! ### The writer: one cell at block g holds its row, which lies above 'base'. -/
def Wrt (w : World) (g base : Nat) (l : List UInt8) : Prop := ∃ v, Blk w g 85 #[v] ∧ g < base ∧ base ≤ w.heap.size ∧ w.ownsRow base 5 1 v l.length (l.map bv)
theorem Wrt.new (w : World) : Wrt (w.alloc (.cells #[.slice none 0 0] 85)) w.heap.size (w.heap.size + 1) [] :=
  ⟨_, Blk.new w _ _, Nat.lt_succ_self _, by simp, World.ownsRow_nil _ _ _ _⟩
theorem Wrt.keep {w w' : World} {g base : Nat} {l : List UInt8} (h : Wrt w g base l) (hb : Below w.heap.size w w') : Wrt w' g base l := by
  obtain ⟨v, h1, h2, h3, h4⟩ := h
  exact ⟨v, h1.keep hb, h2, Nat.le_trans h3 hb.size, own_below h4 hb⟩

/-- put of one byte, that lies in the newest block -/
theorem put_any {w : World} {g base : Nat} {l : List UInt8} (h : Wrt w g base l) (hl : l.length ≤ 999999) (x : UInt8) :
    Calls Try.prog 51 #[.pointer (some ⟨g, 0, none⟩), .slice (some ⟨w.heap.size, 0, none⟩) 1 1] (w.alloc (.cells #[bv x] 5)) fun e w' => e = .returned (.tuple #[]) ∧ Wrt w' g base (l ++ [x]) ∧ Fr (fun k => k = g ∨ base ≤ k) w w' := by
  obtain ⟨i0, hi0, hz0, hz1, hz2⟩ := info_parts byte_info
  obtain ⟨v, h1, h2, h3, h4⟩ := h
  have hgl := h1.lt
  have h1a := h1.alloc (.cells #[bv x] 5)
  have c0 : (w.alloc (.cells #[bv x] 5)).cell? ⟨g, 0, none⟩ = some v := h1a.cell 0
  go_enter Try.func51, Try.ntmps51
  go_wp2_with (at_builtin; refine wpList_app1 w (by rfl) _ _ 24 (by rfl) base 5 i0 _ 1 1 Try.underlying24 hi0 hz0 hz1 hz2 rfl (by decide) (by decide) _ l.length _ (by rfl) h4 #[bv x] rfl (by simp [bv, Value.oneCell']) (by rfl) (by omega) (by omega) ?_; intro v' w2 hown2 hf2 hat2; obtain ⟨A', c', rfl, -, -⟩ := Sl.of_own hown2; have hb2 := h1.fr hf2 (fun e => own_ne h4 h2 e.symm); have hc2 := hb2.cell 0; have hz2 := hb2.frozen 0)
  go_end0
  have hfs : Fr (fun k => k = g) w2 (w2.setCell ⟨g, 0, none⟩ (.slice A' (l.length + 1) c')) := Fr.setCell (S := fun k => k = g) (Fr.refl _ w2) (p := ⟨g, 0, none⟩) (fun _ => rfl) _
  refine ⟨rfl, ⟨_, hb2.set_ 0 _, h2, Nat.le_trans h3 (Nat.le_trans hf2.size hfs.size), ?_⟩, (hf2.mono (fun k _ hk => .inr (h4.lt k hk).1)).trans (hfs.mono (fun k _ hk => .inl hk))⟩
  rw [List.length_append, List.length_singleton, List.map_append]
  exact own_far hown2 hfs (fun k hk => by omega)

theorem or128_fin : ∀ x : Fin 256, x.val ||| 128 = x.val % 128 + 128 := by decide +kernel
theorem or128 (u : Nat) : Value.int .u8 (bits .or .u8 ((u : Int) % 256) 128) = bv (ob (u % 128 + 128)) := by
  have h := u8_or_nat (u % 256) 128 (Nat.mod_lt _ (by decide)) (by decide)
  rw [or128_fin ⟨u % 256, Nat.mod_lt _ (by decide)⟩] at h
  rw [show ((u % 256 : Nat) : Int) = (u : Int) % 256 from by simp] at h
  rw [ob_more]
  congr 1
  rw [show ((128 : Nat) : Int) = 128 from rfl] at h
  rw [h]
  simp only [Nat.mod_mod_of_dvd _ (show 128 ∣ 256 by decide)]
  simp
set_option maxRecDepth 100000 in
/-- the writer takes a number -/
theorem writeInt_any {w : World} {g base : Nat} {l : List UInt8} (h : Wrt w g base l) (hl : l.length ≤ 999900) {n : Int} (hn : i64 n) :
    Calls Try.prog 38 #[.pointer (some ⟨g, 0, none⟩), .int .i64 n] w fun e w' => e = .returned (.tuple #[]) ∧ Wrt w' g base (l ++ vint n) ∧ Fr (fun k => k = g ∨ base ≤ k) w w' := by
  have hlt := tnd_lt hn
  have HV : Hid (vint n = vb 10 (tnd n)) := rfl
  go_enter Try.func38, Try.ntmps38
  go_wp2_with fail
  refine (turned_any hn).mono ?_
  rintro e w1 ⟨rfl, rfl⟩
  generalize tnd n = u0 at hlt HV ⊢
  have hu0 : u0 < 128 ^ 11 := Nat.lt_of_lt_of_le hlt (by decide)
  go_wp2_with fail
  go_loopw [4] (fun u wr => ∃ (k uu : Nat) (dn : List UInt8), k ≤ 10 ∧ u = .int .u64 (uu : Int) ∧ uu < 18446744073709551616 ∧ uu < 128 ^ (11 - k) ∧ dn.length = k ∧ Hid (vint n = dn ++ vb (10 - k) uu) ∧ Wrt wr g base (l ++ dn) ∧ Fr (fun k => k = g ∨ base ≤ k) w wr) (fun u _ => (intOf u).toNat)
  case atStart => exact ⟨0, u0, [], by omega, rfl, hlt, hu0, rfl, HV, by simpa using h, Fr.refl _ _⟩
  case round =>
    obtain ⟨k, uu, dn, hk, rfl, hul, hub, hdl, HD, hw, hfw⟩ := hrel
    have hlen : (l ++ dn).length ≤ 999999 := by simp; omega
    by_cases h128 : 128 ≤ uu
    · have h10 : k < 10 := by
        rcases Nat.lt_or_ge k 10 with h | h
        · exact h
        · obtain rfl : k = 10 := by omega
          simp at hub
          omega
      have hbd : uu / 128 < 128 ^ (11 - (k + 1)) := Nat.div_lt_of_lt_mul (by rw [Nat.mul_comm, ← Nat.pow_succ, show (11 - (k + 1)).succ = 11 - k by omega]; exact hub)
      have HD2 : Hid (vint n = (dn ++ [ob (uu % 128 + 128)]) ++ vb (10 - (k + 1)) (uu / 128)) := by
        unfold Hid
        rw [HD.out, show 10 - k = (10 - (k + 1)) + 1 by omega, vb_more h128, List.append_assoc]
        rfl
      have HO := Lib.hid (or128 uu)
      go_wp2_with fail
      rw [HO.out]
      refine (put_any hw hlen _).mono ?_
      rintro e w2 ⟨rfl, hw2, hf2⟩
      go_wp2_with fail
      exact ⟨⟨k + 1, uu / 128, dn ++ [ob (uu % 128 + 128)], by omega, by simp, by omega, hbd, by simp [hdl], HD2, by rw [← List.append_assoc]; exact hw2, hfw.trans hf2⟩, by simp [intOf]; omega⟩
    · have HO : Hid (Value.int .u8 (uu : Int) = bv (ob uu)) := by
        have := ob_one uu (by omega)
        simpa [Hid] using this.symm
      have HD2 : Hid (vint n = dn ++ [ob uu]) := by unfold Hid; rw [HD.out, vb_last (by omega)]
      go_wp2_with fail
      rw [HO.out]
      refine (put_any hw hlen _).mono ?_
      rintro e w2 ⟨rfl, hw2, hf2⟩
      go_wp2_with fail
      go_end0
      exact ⟨rfl, by rw [HD2.out, ← List.append_assoc]; exact hw2, hfw.trans hf2⟩

/-- an empty literal is an owned row -/
theorem own_lit (w : World) (e : TypeId) (size : Nat) : (w.alloc (.cells #[] e)).ownsRow w.heap.size e size (.slice (some ⟨w.heap.size, 0, none⟩) 0 0) 0 [] :=
  ⟨by simp, .inr ⟨w.heap.size, 0, #[], rfl, Nat.le_refl _, heap_alloc_new w _, Nat.le_refl _, by unfold maxLen; omega, by simp, by simp⟩⟩
theorem bv_cell (l : List UInt8) : ∀ u ∈ l.map bv, u.oneCell' = true := by
  intro u hu
  obtain ⟨x, _, rfl⟩ := List.mem_map.1 hu
  rfl
theorem clone_any {w : World} {A : Option Addr} {n c : Nat} {l : List UInt8} (h : SlB w A n c l) (hn : n ≤ 1000000) :
    Calls Try.prog 43 #[.slice A n c] w fun e w' => ∃ v, e = .returned v ∧ w'.ownsRow w.heap.size 5 1 v n (l.map bv) ∧ Below w.heap.size w w' := by
  obtain ⟨i0, hi0, hz0, hz1, hz2⟩ := info_parts byte_info
  cases A with
  | none =>
    have hc : c = 0 := h.1.2.2.2.1 rfl
    have hn0 : n = 0 := by have := h.1.2.1; omega
    subst hc hn0
    obtain rfl : l = [] := List.eq_nil_of_length_eq_zero h.2
    have hnil := fun w => Lib.run_eql_slice_nil (P := Try.prog) w 24 5 none 0 0 0 0 Try.underlying24
    go_enter Try.func43, Try.ntmps43
    go_wp2_with fail
    go_ret
    exact ⟨_, rfl, World.ownsRow_nil _ _ _ _, Below.refl _ _⟩
  | some ad =>
    have hb0 := (Below.refl w.heap.size w).alloc (Nat.le_refl _) (.cells #[] 5)
    have hown0 := own_lit w 5 1
    have hl0 := h.keep hb0
    have hnews : ∀ (j : Nat) (u : Value), (l.map bv)[j]? = some u → (w.alloc (.cells #[] 5)).cell? (ad.add j) = some u := by
      intro j u hu
      have hlt : j < n := by
        have := (List.getElem?_eq_some_iff.1 hu).1
        rw [List.length_map, h.2] at this
        exact this
      obtain ⟨b, o, e, _, hc⟩ := hl0.1.at_ (by omega)
      cases e
      rw [add_none]
      exact hc j u hu
    have hlen := h.2
    have hnil := fun w => Lib.run_eql_slice_nil (P := Try.prog) w 24 5 (some ad) n c 0 0 Try.underlying24
    go_enter Try.func43, Try.ntmps43
    go_wp2_with (at_builtin; refine wpList_append_own_at _ (by rfl) _ _ 24 (by rfl) w.heap.size 5 i0 _ 1 1 Try.underlying24 hi0 hz0 hz1 hz2 rfl (by decide) _ 0 _ (by rfl) hown0 ad n c (l.map bv) (by rfl) (by simp; omega) hnews (bv_cell l) (by unfold maxLen; omega) (by omega) (by simp) ?_; intro v' w1 hown1 hg1 hnil1 hat1)
    go_ret
    exact ⟨v', rfl, by rw [Nat.zero_add, List.nil_append] at hown1; exact hown1, hb0.grown hg1 (by simp) (fun k e => by cases e; exact Nat.le_refl _)⟩

theorem writerBytes_any {w : World} {g base : Nat} {l : List UInt8} (h : Wrt w g base l) (hl : l.length ≤ 1000000) :
    Calls Try.prog 39 #[.pointer (some ⟨g, 0, none⟩)] w fun e w' => ∃ v, e = .returned v ∧ w'.ownsRow w.heap.size 5 1 v l.length (l.map bv) ∧ Below w.heap.size w w' := by
  obtain ⟨v, h1, h2, h3, h4⟩ := h
  have hgl := h1.lt
  have c0 : w.cell? ⟨g, 0, none⟩ = some v := h1.cell 0
  obtain ⟨A', c', rfl, hs, -⟩ := SlB.of_own h4
  go_enter Try.func39, Try.ntmps39
  go_wp2_with fail
  refine (clone_any hs hl).mono ?_
  rintro e w2 ⟨v2, rfl, hown2, hb2⟩
  go_wp2_with fail
  go_ret
  exact ⟨v2, rfl, hown2, hb2⟩
end Go.Proofs.Ytolohbgfhledoaa
