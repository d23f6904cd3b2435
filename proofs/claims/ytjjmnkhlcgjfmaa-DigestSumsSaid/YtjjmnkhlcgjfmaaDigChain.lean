/- The walks of digest's chains. -/
import Derived.Test.YtjjmnkhlcgjfmaaEvAll
import Derived.Test.YtjjmnkhlcgjfmaaDigWalks
import Derived.Test.YtjjmnkhlcgjfmaaCut
namespace Go.Proofs.Ytjjmnkhlcgjfmaa
open Go.RowKit
theorem crc_app (a b : List UInt8) : crcL (crc a ^^^ M32) b ^^^ M32 = crc (a ++ b) := by
  unfold crc
  rw [Nat.xor_assoc, Nat.xor_self, Nat.xor_zero]
  unfold crcL
  rw [List.foldl_append]
theorem crc_nil : crc [] = 0 := by decide
theorem SlE.of_G {w : World} {A : Option Addr} {n c : Nat} {l : List Ev} (h : SlE w A n c l) : SlG w A n c 6 evC l := ⟨h.1, h.2.1, fun _ _ => rfl⟩
theorem SlE.cut {w : World} {A : Option Addr} {n c : Nat} {l : List Ev} (h : SlE w A n c l) {lo hi : Nat} (h1 : lo ≤ hi) (h2 : hi ≤ n) : SlE w (slA A lo c 6) (hi - lo) (c - lo) ((l.drop lo).take (hi - lo)) := by
  have := (SlE.of_G h).cut h1 h2
  exact ⟨this.1, this.2.1, fun x hx => h.2.2 x (List.mem_of_mem_drop (List.mem_of_mem_take hx))⟩
theorem SlE.lt_ {w : World} {A : Option Addr} {n c : Nat} {l : List Ev} (h : SlE w A n c l) (hn : 0 < n) {g o : Nat} (e : A = some ⟨g, o, none⟩) : g < w.heap.size := by
  obtain ⟨b', o', e', hlt, _⟩ := h.1.at_ hn
  rw [e'] at e
  cases e
  exact hlt
/-- cells in which a chain of bytes bs and m events lies at off -/
def chC (cs : Array Value) (off : Nat) (bs : List UInt8) (m : Nat) : Array Value := (cs.setIfInBounds off (.int .u32 ((crc bs : Nat) : Int))).setIfInBounds (off + 1) (.int .i64 (m : Nat))
theorem chC_0 {cs : Array Value} {off : Nat} (h : off + 1 < cs.size) (bs : List UInt8) (m : Nat) : (chC cs off bs m)[off]? = some (.int .u32 ((crc bs : Nat) : Int)) := by
  unfold chC
  rw [Array.getElem?_setIfInBounds_ne (by omega), Array.getElem?_setIfInBounds_self_of_lt (by omega)]
theorem chC_1 {cs : Array Value} {off : Nat} (h : off + 1 < cs.size) (bs : List UInt8) (m : Nat) : (chC cs off bs m)[off + 1]? = some (.int .i64 (m : Nat)) := by
  unfold chC
  rw [Array.getElem?_setIfInBounds_self_of_lt (by simpa using h)]
theorem chC_size (cs : Array Value) (off : Nat) (bs : List UInt8) (m : Nat) : (chC cs off bs m).size = cs.size := by simp [chC]
theorem chC_far (cs : Array Value) (off : Nat) (bs : List UInt8) (m : Nat) {j : Nat} (h0 : j ≠ off) (h1 : j ≠ off + 1) : (chC cs off bs m)[j]? = cs[j]? := by
  unfold chC
  rw [Array.getElem?_setIfInBounds_ne (by omega), Array.getElem?_setIfInBounds_ne (by omega)]
theorem chC_set {cs : Array Value} {off : Nat} (h : off + 1 < cs.size) (bs bs' : List UInt8) (m m' : Nat) : ((chC cs off bs m).setIfInBounds off (.int .u32 ((crc bs' : Nat) : Int))).setIfInBounds (off + 1) (.int .i64 (m' : Nat)) = chC cs off bs' m' := by
  apply Array.ext_getElem?
  intro j
  by_cases h1 : j = off + 1
  · subst h1
    rw [chC_1 h, Array.getElem?_setIfInBounds_self_of_lt (by simpa [chC_size] using h)]
  · rw [Array.getElem?_setIfInBounds_ne (by omega)]
    by_cases h0 : j = off
    · subst h0
      rw [chC_0 h, Array.getElem?_setIfInBounds_self_of_lt (by rw [chC_size]; omega)]
    · rw [Array.getElem?_setIfInBounds_ne (by omega), chC_far _ _ _ _ h0 h1, chC_far _ _ _ _ h0 h1]
theorem chC_self {cs : Array Value} {off : Nat} {bs : List UInt8} {m : Nat} (h0 : cs[off]? = some (.int .u32 ((crc bs : Nat) : Int))) (h1 : cs[off + 1]? = some (.int .i64 (m : Nat))) : chC cs off bs m = cs := by
  have hs : off + 1 < cs.size := (Array.getElem?_eq_some_iff.1 h1).1
  apply Array.ext_getElem?
  intro j
  by_cases e1 : j = off + 1
  · subst e1; rw [chC_1 hs, h1]
  · by_cases e0 : j = off
    · subst e0; rw [chC_0 hs, h0]
    · rw [chC_far _ _ _ _ e0 e1]

set_option maxRecDepth 100000 in
set_option maxHeartbeats 1000000 in
theorem add_any {w : World} {g off : Nat} {t : TypeId} {cs : Array Value} {bs : List UInt8} {m : Nat} (hs : off + 1 < cs.size) (hb : Blk w g t (chC cs off bs m)) {A : Option Addr} {n c : Nat} {l : List Ev} (hl : SlE w A n c l) (hA : ∀ b o, 0 < n → A = some ⟨b, o, none⟩ → b ≠ g) (hn : n ≤ 1000) (hm : m ≤ 1000000) :
    Calls Try.prog 16 #[.pointer (some ⟨g, off, none⟩), .slice A n c] w fun e w' => e = .returned (.tuple #[]) ∧ Blk w' g t (chC cs off (bs ++ allB l) (m + n)) ∧ Fr (fun k => k = g) w w' := by
  have hln := hl.2.1
  go_enter Try.func16, Try.ntmps16
  go_wp2_with fail
  go_loopw [10] (fun i wr => ∃ k : Nat, k ≤ n ∧ i = .int .i64 k ∧ Blk wr g t (chC cs off (bs ++ allB (l.take k)) (m + k)) ∧ Fr (fun k => k = g) w wr) (fun i _ => n - (intOf i).toNat)
  case atStart => exact ⟨0, by omega, rfl, by simpa [allB] using hb, Fr.refl _ _⟩
  case round =>
    obtain ⟨k, hk, rfl, hbk, hfw⟩ := hrel
    by_cases hlt : k < n
    · have hlw : SlE wr A n c l := ⟨hl.1.fr hfw (fun b o hp e h => hA b o hp e h), hl.2⟩
      obtain ⟨b, o, rfl, hbl, h0, h1, h2, h3, h4, h5⟩ := hlw.at_ hlt
      have hi := hl.ok hlt
      have hbg : ¬ b = g := hA b o (by omega) rfl
      have HT : Hid (allB (l.take (k + 1)) = allB (l.take k) ++ evB (atE l k)) := by unfold Hid; rw [take_snocE l k (by omega), allB_snoc]
      have hc0 : wr.cell? ⟨g, off, none⟩ = some (.int .u32 ((crc (bs ++ allB (l.take k)) : Nat) : Int)) := (hbk.cell off).trans (chC_0 hs _ _)
      have hc1 : wr.cell? ⟨g, off + 1, none⟩ = some (.int .i64 ((m + k : Nat) : Int)) := (hbk.cell (off + 1)).trans (chC_1 hs _ _)
      have hgl := hbk.lt
      have hcr := crc_app (bs ++ allB (l.take k)) (evB (atE l k))
      rw [List.append_assoc] at hcr
      have HR := Lib.hid hcr
      clear hcr
      generalize hbs : bs ++ allB (l.take k) = xs at hc0 hbk HR
      have HXS := Lib.hid hbs
      clear hbs
      have hcx := crc_lt xs
      generalize hx : atE l k = x at h0 h1 h2 h3 h4 h5 hi HT HR ⊢
      have hb0 := Blk.new wr 39 #[.int .i64 x.a, .int .i64 x.b, .int .i64 x.c, .int .i64 x.d, .int .i64 x.e, .int .i64 x.f]
      have hbA := hbk.alloc (.cells #[.int .i64 x.a, .int .i64 x.b, .int .i64 x.c, .int .i64 x.d, .int .i64 x.e, .int .i64 x.f] 39)
      have hfA := hfw.alloc (.cells #[.int .i64 x.a, .int .i64 x.b, .int .i64 x.c, .int .i64 x.d, .int .i64 x.e, .int .i64 x.f] 39)
      go_wp2_with fail
      rw [hx] at *
      generalize wr.alloc (.cells #[.int .i64 x.a, .int .i64 x.b, .int .i64 x.c, .int .i64 x.d, .int .i64 x.e, .int .i64 x.f] 39) = w1 at hb0 hbA hfA ⊢
      have hgr : ¬ wr.heap.size = g := by omega
      generalize wr.heap.size = p at hb0 hgr ⊢
      have hpl := hb0.lt
      have e0 : w1.cell? ⟨p, 0, none⟩ = some (.int .i64 x.a) := hb0.cell 0
      have e1 : w1.cell? ⟨p, 1, none⟩ = some (.int .i64 x.b) := hb0.cell 1
      have e2 : w1.cell? ⟨p, 2, none⟩ = some (.int .i64 x.c) := hb0.cell 2
      have e3 : w1.cell? ⟨p, 3, none⟩ = some (.int .i64 x.d) := hb0.cell 3
      have e4 : w1.cell? ⟨p, 4, none⟩ = some (.int .i64 x.e) := hb0.cell 4
      have e5 : w1.cell? ⟨p, 5, none⟩ = some (.int .i64 x.f) := hb0.cell 5
      have hgl1 := hbA.lt
      clear h0 h1 h2 h3 h4 h5 hc0 hc1 hgl hbk hfw hlw hbl
      refine wp_region_at (fun j => j = g) [4, 0] (by kernel_rfl) (by kernel_rfl) ?_
      simp only [wpSegs, List.take, List.drop]
      repeat (go_big_quiet_step (fail))
      refine wpQuiet_nil (wpHead_want rfl (fun K' hK' => ?_))
      go_wp2_with fail
      refine (bytes_any (w := w1.drew) hi).mono ?_
      rintro ee w2 ⟨v2, rfl, hown2, hb2⟩
      replace hb2 : Below w1.heap.size w1 w2 := (Below.drew (Below.refl _ w1)).trans hb2
      obtain ⟨A2, c2, rfl, hs2, -⟩ := SlB.of_own hown2
      refine hK' _ _ rfl (fr_graft (Fr.of_below hb2 _)) ?_
      clear hK' K'
      try simp only [List.take, List.drop]
      repeat (go_big_quiet_step (fail))
      refine wpQuiet_nil (wpHead_want rfl (fun K' hK' => ?_))
      have hbB := hbA.keep hb2
      have d0 : w2.cell? ⟨g, off, none⟩ = some (.int .u32 ((crc xs : Nat) : Int)) := (hbB.cell off).trans (chC_0 hs _ _)
      have d1 : w2.cell? ⟨g, off + 1, none⟩ = some (.int .i64 ((m + k : Nat) : Int)) := (hbB.cell (off + 1)).trans (chC_1 hs _ _)
      have f0 := hbB.frozen off
      have f1 := hbB.frozen (off + 1)
      go_wp2_with fail
      refine (take_any hcx d0 f0 hs2).mono ?_
      rintro ee w3 ⟨rfl, rfl⟩
      refine hK' _ _ rfl (fr_graft (Fr.setCell (S := fun j => j = g) (Fr.of_below hb2 _) (p := ⟨g, off, none⟩) (fun _ => rfl) _)) ?_
      clear hK' K'
      repeat (go_big_quiet_step (fail))
      refine wpQuiet_nil ?_
      rw [HR.out]
      go_wp2_with fail
      refine ⟨⟨k + 1, by omega, by go_num, ?_, ?_⟩, by simp [intOf]; omega⟩
      · have hcc := chC_set hs xs (bs ++ (allB (l.take k) ++ evB x)) (m + k) (m + (k + 1))
        rw [HT.out, ← hcc]
        exact (hbB.set_ off _).set_ (off + 1) _
      · exact ((hfA.trans (Fr.of_below hb2 _)).setCell (p := ⟨g, off, none⟩) (fun _ => rfl) _).setCell (p := ⟨g, off + 1, none⟩) (fun _ => rfl) _
    · obtain rfl : k = n := by omega
      have HT : Hid (l.take k = l) := List.take_of_length_le (by omega)
      rw [HT.out] at hbk
      go_wp2_with fail
      go_end0
      exact ⟨rfl, hbk, hfw⟩
theorem add_nil {w : World} {v : Value} :
    Calls Try.prog 16 #[.pointer none, v] w fun e w' => e = .returned (.tuple #[]) ∧ w = w' := by
  go_enter Try.func16, Try.ntmps16
  go_wp2_with fail
  refine bodyPost_ret (v := .tuple #[]) (results_none rfl _ _ _) rfl ⟨rfl, rfl⟩
theorem csum_any {w : World} {g off : Nat} {x : Int} (c0 : w.cell? ⟨g, off, none⟩ = some (.int .u32 x)) :
    Calls Try.prog 18 #[.pointer (some ⟨g, off, none⟩)] w fun e w' => e = .returned (.int .u32 x) ∧ w = w' := by
  go_enter Try.func18, Try.ntmps18
  go_wp2_with fail
  go_ret
  exact ⟨rfl, rfl⟩
theorem csum_nil {w : World} :
    Calls Try.prog 18 #[.pointer none] w fun e w' => e = .returned (.int .u32 0) ∧ w = w' := by
  go_enter Try.func18, Try.ntmps18
  go_wp2_with fail
  go_ret
  exact ⟨rfl, rfl⟩
theorem clen_any {w : World} {g off : Nat} {x : Int} (c1 : w.cell? ⟨g, off + 1, none⟩ = some (.int .i64 x)) : Calls Try.prog 17 #[.pointer (some ⟨g, off, none⟩)] w fun e w' => e = .returned (.int .i64 x) ∧ w = w' := by
  go_enter Try.func17, Try.ntmps17
  go_wp2_with fail
  go_ret
  exact ⟨rfl, rfl⟩
theorem clen_nil {w : World} : Calls Try.prog 17 #[.pointer none] w fun e w' => e = .returned (.int .i64 0) ∧ w = w' := by
  go_enter Try.func17, Try.ntmps17
  go_wp2_with fail
  go_ret
  exact ⟨rfl, rfl⟩
def ch0 : Array Value := #[.int .u32 0, .int .i64 0]
theorem ch0_eq : chC ch0 0 [] 0 = ch0 := chC_self (by rw [crc_nil]; rfl) rfl
theorem chain_new (w : World) : Blk (w.alloc (.cells #[.int .u32 0, .int .i64 0] 45)) w.heap.size 45 (chC ch0 0 [] 0) := by
  rw [ch0_eq]
  exact Blk.new w _ _
theorem events_any {w : World} {A : Option Addr} {n c : Nat} {l : List Ev} (hl : SlE w A n c l) (hn : n ≤ 1000) :
    Calls Try.prog 21 #[.slice A n c] w fun e w' => e = .returned (.int .u32 ((crc (allB l) : Nat) : Int)) ∧ Below w.heap.size w w' := by
  have hb0 := (Below.refl w.heap.size w).alloc (Nat.le_refl _) (.cells #[.int .u32 0, .int .i64 0] 45)
  have hc0 := chain_new w
  have hg : ∀ b o, 0 < n → A = some ⟨b, o, none⟩ → b ≠ w.heap.size := fun b o hp e h => by have := hl.lt_ hp e; omega
  go_enter Try.func21, Try.ntmps21
  go_wp2_with fail
  generalize w.alloc (.cells #[.int .u32 0, .int .i64 0] 45) = w1 at hb0 hc0 ⊢
  refine (add_any (by decide) hc0 (hl.keep hb0) hg hn (by decide)).mono ?_
  rintro e w2 ⟨rfl, hb2, hf2⟩
  have d0 : w2.cell? ⟨w.heap.size, 0, none⟩ = some (.int .u32 ((crc ([] ++ allB l) : Nat) : Int)) := (hb2.cell 0).trans (chC_0 (by decide) _ _)
  rw [List.nil_append] at d0
  go_wp2_with fail
  refine (csum_any d0).mono ?_
  rintro e w3 ⟨rfl, rfl⟩
  go_wp2_with fail
  go_ret
  exact ⟨rfl, hb0.trans (hf2.below (fun k hk h => by omega) hb0.size)⟩
end Go.Proofs.Ytjjmnkhlcgjfmaa
