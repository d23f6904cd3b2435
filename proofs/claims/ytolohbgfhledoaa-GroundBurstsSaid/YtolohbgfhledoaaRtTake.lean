/- The document's Take, walked. -/
import Derived.Test.YtolohbgfhledoaaRtBytes
import Derived.Test.YtolohbgfhledoaaGroundNone
import Derived.Test.YtolohbgfhledoaaMixC
namespace Go.Proofs.Ytolohbgfhledoaa
open Go.RowKit
theorem gInt_bad {s : RS} (h : s.e ≠ 0) : gInt s = (0, s) := by unfold gInt; rw [if_pos h]
theorem tk_err {l : List UInt8} {a : Nat} (h : (gInt ⟨l.drop a, 0⟩).2.e ≠ 0) : tkR l a = (0, 0, (gInt ⟨l.drop a, 0⟩).2.e) := by rw [tkR_gInt, if_neg h]
theorem tk_ok {l : List UInt8} {a : Nat} (ha : a ≤ l.length) (h : (gInt ⟨l.drop a, 0⟩).2.e = 0) : ∃ a', a < a' ∧ a' ≤ l.length ∧ tkR l a = ((gInt ⟨l.drop a, 0⟩).1, (a' : Int), 0) ∧ (gInt ⟨l.drop a, 0⟩).2 = ⟨l.drop a', 0⟩ := by
  obtain ⟨-, hi⟩ := gInt_inv h
  have hv := vint_len (gInt ⟨l.drop a, 0⟩).1
  rw [tkR_gInt, if_pos h]
  generalize gInt ⟨l.drop a, 0⟩ = g at h hi hv ⊢
  obtain ⟨v, l', e⟩ := g
  simp only at h hi hv ⊢
  subst h
  have hl : l.length - a = (vint v).length + l'.length := by
    have := congrArg List.length hi
    simpa using this
  refine ⟨a + (vint v).length, by omega, by omega, ?_, ?_⟩
  · rw [show l.length - l'.length = a + (vint v).length by omega]
  · rw [← List.drop_drop, hi, List.drop_left]
theorem run_mk4 (w : World) : (Instr.makeSlice 73 (.int .i64 4) (.int .i64 4)).run Try.prog w = .ok (.slice (some ⟨w.heap.size, 0, none⟩) 4 4) (w.alloc (.cells #[.int .i64 0, .int .i64 0, .int .i64 0, .int .i64 0] 3)) := by kernel_rfl
theorem bytes_str {w : World} {A : Option Addr} {n c : Nat} {l : List UInt8} (h : SlB w A n c l) : (convert 24 9 (.slice A n c)).run Try.prog w = .ok (.string ⟨l.toArray⟩) w :=
  run_bytes_str _ _ 5 (by kernel_rfl) (by kernel_rfl) (by kernel_rfl) h
theorem str_ne {a b : ByteArray} (h : ¬ a = b) : (a.toList == b.toList) = false := by
  rw [ByteArray.toList_eq, ByteArray.toList_eq]
  cases hh : (a.data.toList == b.data.toList) with
  | false => rfl
  | true => exact absurd (Go.WideShapes.bytes_inj (eq_of_beq hh)) h
/-- the walk's state: the result's block is zero, the bytes are there, the four numbers lie behind it -/
def TkSt (w W : World) (bb o n c : Nat) (b : List UInt8) (c0 c1 c2 c3 : Int) : Prop :=
  Below w.heap.size w W ∧ Blk W w.heap.size 23 #[.int .i64 0, .int .i64 0, .int .i64 0, .int .i64 0] ∧ SlB W (some ⟨bb, o, none⟩) n c b ∧ Blk W (w.heap.size + 1) 3 #[.int .i64 c0, .int .i64 c1, .int .i64 c2, .int .i64 c3] ∧ bb < w.heap.size
theorem TkSt.fr {w W W' : World} {bb o n c : Nat} {b : List UInt8} {c0 c1 c2 c3 : Int} (h : TkSt w W bb o n c b c0 c1 c2 c3) {d0 d1 d2 d3 : Int} (hf : Fr (fun k => k = w.heap.size + 1) W W') (hb : Blk W' (w.heap.size + 1) 3 #[.int .i64 d0, .int .i64 d1, .int .i64 d2, .int .i64 d3]) : TkSt w W' bb o n c b d0 d1 d2 d3 := by
  obtain ⟨h1, h2, h3, h4, h5⟩ := h
  have hs := h1.size
  exact ⟨h1.trans (hf.below (fun k hk h => by have h : k = w.heap.size + 1 := h; omega) hs), h2.fr hf (by omega), SlB.fr (S := fun k => k = w.heap.size + 1) h3 hf (fun b o hp e h => by cases e; have h : bb = w.heap.size + 1 := h; omega), hb, h5⟩
set_option maxRecDepth 100000 in
set_option maxHeartbeats 8000000 in
theorem takeR_any {w : World} {A : Option Addr} {n c : Nat} {b : List UInt8} (hb : SlB w A n c b) (hn : n ≤ 100000) :
    Calls Try.prog 13 #[.slice A n c] w fun e w' => e = .returned (.tuple #[(takeP b).1.val, .int .i64 ((takeP b).2.1 : Nat), .int .i64 (takeP b).2.2]) ∧ Below w.heap.size w w' := by
  have hbl := hb.2
  have hz := (Below.refl w.heap.size w).alloc (Nat.le_refl _) (.cells #[.int .i64 0, .int .i64 0, .int .i64 0, .int .i64 0] 23)
  have bz := Blk.new w 23 #[.int .i64 0, .int .i64 0, .int .i64 0, .int .i64 0]
  cases b with
  | nil =>
    obtain rfl : n = 0 := by simpa using hbl.symm
    have HT : Hid (takeP [] = (pk0, 0, 10)) := rfl
    go_enter Try.func13, Try.ntmps13
    go_upto_region 2 with fail
    generalize w.alloc (.cells #[.int .i64 0, .int .i64 0, .int .i64 0, .int .i64 0] 23) = w0 at hz bz ⊢
    have z0 : w0.cell? ⟨w.heap.size, 0, none⟩ = some (.int .i64 0) := bz.cell 0
    have z1 : w0.cell? ⟨w.heap.size, 1, none⟩ = some (.int .i64 0) := bz.cell 1
    have z2 : w0.cell? ⟨w.heap.size, 2, none⟩ = some (.int .i64 0) := bz.cell 2
    have z3 : w0.cell? ⟨w.heap.size, 3, none⟩ = some (.int .i64 0) := bz.cell 3
    have fz : ∀ i, w0.frozen? ⟨w.heap.size, i, none⟩ = false := bz.frozen
    have hzl := bz.lt
    go_wp2_with fail
    have bz9 := Blk.set4 bz (.int .i64 0) (.int .i64 0) (.int .i64 0) (.int .i64 0)
    have hB9 := below_set4 (g := w.heap.size) hz (Nat.le_refl _) (.int .i64 0) (.int .i64 0) (.int .i64 0) (.int .i64 0)
    generalize (((w0.setCell ⟨w.heap.size, 0, none⟩ (.int .i64 0)).setCell ⟨w.heap.size, 1, none⟩ (.int .i64 0)).setCell ⟨w.heap.size, 2, none⟩ (.int .i64 0)).setCell ⟨w.heap.size, 3, none⟩ (.int .i64 0) = w9 at bz9 hB9 ⊢
    have y0 : w9.cell? ⟨w.heap.size, 0, none⟩ = some (.int .i64 0) := bz9.cell 0
    have y1 : w9.cell? ⟨w.heap.size, 1, none⟩ = some (.int .i64 0) := bz9.cell 1
    have y2 : w9.cell? ⟨w.heap.size, 2, none⟩ = some (.int .i64 0) := bz9.cell 2
    have y3 : w9.cell? ⟨w.heap.size, 3, none⟩ = some (.int .i64 0) := bz9.cell 3
    refine bodyPost_ret (v := .tuple #[.agg #[.int .i64 0, .int .i64 0, .int .i64 0, .int .i64 0], .int .i64 0, .int .i64 10]) (by simp [results, Try.results13, go_sem, y0, y1, y2, y3]) rfl ⟨?_, hB9⟩
    rw [HT.out]
    rfl
  | cons x r =>
    obtain ⟨m, rfl⟩ : ∃ m, n = m + 1 := ⟨r.length, by simpa using hbl.symm⟩
    have hne0 : ((m : Int) + 1 == 0) = false := by simp; omega
    obtain ⟨bb, o, rfl, hlt, hc⟩ := hb.at_ (k := 0) (by omega)
    rw [Nat.add_zero, show atB (x :: r) 0 = x from rfl] at hc
    have hc0 := ((bcell hz).1 bb o hlt).trans hc
    by_cases hx : x.toNat = 165
    · have hx2 : ((x.toNat : Int) != 165) = false := by simp; omega
      have hrm : r.length = m := by simpa using hbl
      have hsz : (w.alloc (.cells #[.int .i64 0, .int .i64 0, .int .i64 0, .int .i64 0] 23)).heap.size = w.heap.size + 1 := by unfold World.alloc; exact Array.size_push _
      have hb0 := hb.keep hz
      have hmk := run_mk4
      go_enter Try.func13, Try.ntmps13
      go_upto_region 6 with fail
      generalize w.alloc (.cells #[.int .i64 0, .int .i64 0, .int .i64 0, .int .i64 0] 23) = w0 at hz bz hb0 hsz ⊢
      have hz1 := (Below.refl w0.heap.size w0).alloc (Nat.le_refl _) (.cells #[.int .i64 0, .int .i64 0, .int .i64 0, .int .i64 0] 3)
      have bl1 := Blk.new w0 3 #[.int .i64 0, .int .i64 0, .int .i64 0, .int .i64 0]
      have hsz1 : (w0.alloc (.cells #[.int .i64 0, .int .i64 0, .int .i64 0, .int .i64 0] 3)).heap.size = w0.heap.size + 1 := by unfold World.alloc; exact Array.size_push _
      have bz1 := bz.keep hz1
      have hB1 := hz.trans (hz1.mono hz.size)
      have hb1 := hb0.keep hz1
      rw [hsz] at bl1 hsz1
      have HE0 : Hid ((gInt ⟨r, 0⟩).2.e ≠ 0 → takeP (x :: r) = (pk0, 0, (gInt ⟨r, 0⟩).2.e)) := fun h => by
        have : g4 r = (⟨(gInt ⟨r, 0⟩).1, 0, 0, 0⟩, (gInt ⟨r, 0⟩).2) := by simp only [g4, gInt_bad h]
        rw [takeP_err hx (by rw [this]; exact h), this]
      have hdr : (x :: r).drop 1 = r := rfl
      rw [← hdr] at HE0
      go_upto_region 7 with fail
      generalize w0.alloc (.cells #[.int .i64 0, .int .i64 0, .int .i64 0, .int .i64 0] 3) = w1 at hz1 bl1 bz1 hB1 hb1 hsz1 ⊢
      clear hz bz hb0 hsz hz1 hmk hc hc0 hne0 hx2 hb
      have hbbl : bb < w.heap.size := hlt
      have HG : Hid (g4 r = (⟨(gInt ⟨(x :: r).drop 1, 0⟩).1, (gInt (gInt ⟨(x :: r).drop 1, 0⟩).2).1, (gInt (gInt (gInt ⟨(x :: r).drop 1, 0⟩).2).2).1, (gInt (gInt (gInt (gInt ⟨(x :: r).drop 1, 0⟩).2).2).2).1⟩, (gInt (gInt (gInt (gInt ⟨(x :: r).drop 1, 0⟩).2).2).2).2)) := rfl
      have HX := Lib.hid hx
      clear HE0 hx
      have hst : TkSt w w1 bb o (m + 1) c (x :: r) 0 0 0 0 := ⟨hB1, bz1, hb1, bl1, hbbl⟩
      clear hB1 bz1 hb1 bl1
      have hrng := gInt_rng
      go_wp2_with fail
      refine wp_loop_rounds 5 ?_
      rw [rounds_succ]
      obtain ⟨hB, bz, hb, bl, -⟩ := id hst
      have ha1 : 1 ≤ (x :: r).length := by rw [List.length_cons, hrm]; omega
      go_wp2_with fail
      refine (takeIntR_any (a := 1) hb (by omega) (by rw [List.length_cons, hrm] at ha1; exact ha1)).mono ?_
      rintro ee u ⟨rfl, rfl⟩
      by_cases he : (gInt ⟨(x :: r).drop 1, 0⟩).2.e = 0
      case' neg =>
        rw [tk_err he]
        have HT : Hid (takeP (x :: r) = (pk0, 0, (gInt ⟨(x :: r).drop 1, 0⟩).2.e)) := by
          have hg : (g4 r).2.e = (gInt ⟨(x :: r).drop 1, 0⟩).2.e := by rw [HG.out] <;> simp only [gInt_bad he]
          have := takeP_err (x := x) (r := r) HX.out (by rw [hg]; exact he)
          exact Lib.hid (by rw [this, hg])
        generalize (gInt ⟨(x :: r).drop 1, 0⟩).2.e = E at he HT ⊢
        have he' : (E != 0) = true := by simpa using he
        clear HG he
        have z0 : w1.cell? ⟨w.heap.size, 0, none⟩ = some (.int .i64 0) := bz.cell 0
        have z1 : w1.cell? ⟨w.heap.size, 1, none⟩ = some (.int .i64 0) := bz.cell 1
        have z2 : w1.cell? ⟨w.heap.size, 2, none⟩ = some (.int .i64 0) := bz.cell 2
        have z3 : w1.cell? ⟨w.heap.size, 3, none⟩ = some (.int .i64 0) := bz.cell 3
        have fz : ∀ i, w1.frozen? ⟨w.heap.size, i, none⟩ = false := bz.frozen
        have hzl := bz.lt
        go_wp2_with fail
        have bz9 := Blk.set4 bz (.int .i64 0) (.int .i64 0) (.int .i64 0) (.int .i64 0)
        have hB9 := below_set4 (g := w.heap.size) hB (Nat.le_refl _) (.int .i64 0) (.int .i64 0) (.int .i64 0) (.int .i64 0)
        generalize (((w1.setCell ⟨w.heap.size, 0, none⟩ (.int .i64 0)).setCell ⟨w.heap.size, 1, none⟩ (.int .i64 0)).setCell ⟨w.heap.size, 2, none⟩ (.int .i64 0)).setCell ⟨w.heap.size, 3, none⟩ (.int .i64 0) = w9 at bz9 hB9 ⊢
        have y0 : w9.cell? ⟨w.heap.size, 0, none⟩ = some (.int .i64 0) := bz9.cell 0
        have y1 : w9.cell? ⟨w.heap.size, 1, none⟩ = some (.int .i64 0) := bz9.cell 1
        have y2 : w9.cell? ⟨w.heap.size, 2, none⟩ = some (.int .i64 0) := bz9.cell 2
        have y3 : w9.cell? ⟨w.heap.size, 3, none⟩ = some (.int .i64 0) := bz9.cell 3
        refine bodyPost_ret (v := .tuple #[.agg #[.int .i64 0, .int .i64 0, .int .i64 0, .int .i64 0], .int .i64 0, .int .i64 E]) (by simp [results, Try.results13, go_sem, y0, y1, y2, y3]) rfl ⟨?_, hB9⟩
        rw [HT.out]
        rfl
      obtain ⟨a1, hlt1, hle1, hT, hS⟩ := tk_ok ha1 he
      rw [hT]
      rw [hS] at HG
      generalize (gInt ⟨(x :: r).drop 1, 0⟩).1 = q0 at HG ⊢
      clear he hT hS
      rw [List.length_cons, hrm] at hle1
      have hst1 : TkSt w (w1.setCell ⟨w.heap.size + 1, 0, none⟩ (.int .i64 q0)) bb o (m + 1) c (x :: r) q0 0 0 0 := hst.fr (Fr.setCell (S := fun k => k = w.heap.size + 1) (Fr.refl _ w1) (p := ⟨w.heap.size + 1, 0, none⟩) (fun _ => rfl) _) (bl.set_ 0 (.int .i64 q0))
      have bl0 : w1.cell? ⟨w.heap.size + 1, 0, none⟩ = some (.int .i64 0) := bl.cell 0
      have bf : ∀ i, w1.frozen? ⟨w.heap.size + 1, i, none⟩ = false := bl.frozen
      go_wp2_with fail
      clear hB bz hb bl bl0 bf hst ha1
      have hst := hst1
      clear hst1
      generalize w1.setCell ⟨w.heap.size + 1, 0, none⟩ (.int .i64 q0) = w2 at hst ⊢
      rw [rounds_succ]
      obtain ⟨hB, bz, hb, bl, -⟩ := id hst
      have ha1 : a1 ≤ (x :: r).length := by rw [List.length_cons, hrm]; omega
      go_wp2_with fail
      refine (takeIntR_any (a := a1) hb (by omega) (by rw [List.length_cons, hrm] at ha1; exact ha1)).mono ?_
      rintro ee u ⟨rfl, rfl⟩
      by_cases he : (gInt ⟨(x :: r).drop a1, 0⟩).2.e = 0
      case' neg =>
        rw [tk_err he]
        have HT : Hid (takeP (x :: r) = (pk0, 0, (gInt ⟨(x :: r).drop a1, 0⟩).2.e)) := by
          have hg : (g4 r).2.e = (gInt ⟨(x :: r).drop a1, 0⟩).2.e := by rw [HG.out] <;> simp only [gInt_bad he]
          have := takeP_err (x := x) (r := r) HX.out (by rw [hg]; exact he)
          exact Lib.hid (by rw [this, hg])
        generalize (gInt ⟨(x :: r).drop a1, 0⟩).2.e = E at he HT ⊢
        have he' : (E != 0) = true := by simpa using he
        clear HG he
        have z0 : w2.cell? ⟨w.heap.size, 0, none⟩ = some (.int .i64 0) := bz.cell 0
        have z1 : w2.cell? ⟨w.heap.size, 1, none⟩ = some (.int .i64 0) := bz.cell 1
        have z2 : w2.cell? ⟨w.heap.size, 2, none⟩ = some (.int .i64 0) := bz.cell 2
        have z3 : w2.cell? ⟨w.heap.size, 3, none⟩ = some (.int .i64 0) := bz.cell 3
        have fz : ∀ i, w2.frozen? ⟨w.heap.size, i, none⟩ = false := bz.frozen
        have hzl := bz.lt
        go_wp2_with fail
        have bz9 := Blk.set4 bz (.int .i64 0) (.int .i64 0) (.int .i64 0) (.int .i64 0)
        have hB9 := below_set4 (g := w.heap.size) hB (Nat.le_refl _) (.int .i64 0) (.int .i64 0) (.int .i64 0) (.int .i64 0)
        generalize (((w2.setCell ⟨w.heap.size, 0, none⟩ (.int .i64 0)).setCell ⟨w.heap.size, 1, none⟩ (.int .i64 0)).setCell ⟨w.heap.size, 2, none⟩ (.int .i64 0)).setCell ⟨w.heap.size, 3, none⟩ (.int .i64 0) = w9 at bz9 hB9 ⊢
        have y0 : w9.cell? ⟨w.heap.size, 0, none⟩ = some (.int .i64 0) := bz9.cell 0
        have y1 : w9.cell? ⟨w.heap.size, 1, none⟩ = some (.int .i64 0) := bz9.cell 1
        have y2 : w9.cell? ⟨w.heap.size, 2, none⟩ = some (.int .i64 0) := bz9.cell 2
        have y3 : w9.cell? ⟨w.heap.size, 3, none⟩ = some (.int .i64 0) := bz9.cell 3
        refine bodyPost_ret (v := .tuple #[.agg #[.int .i64 0, .int .i64 0, .int .i64 0, .int .i64 0], .int .i64 0, .int .i64 E]) (by simp [results, Try.results13, go_sem, y0, y1, y2, y3]) rfl ⟨?_, hB9⟩
        rw [HT.out]
        rfl
      obtain ⟨a2, hlt2, hle2, hT, hS⟩ := tk_ok ha1 he
      rw [hT]
      rw [hS] at HG
      generalize (gInt ⟨(x :: r).drop a1, 0⟩).1 = q1 at HG ⊢
      clear he hT hS
      rw [List.length_cons, hrm] at hle2
      have hst2 : TkSt w (w2.setCell ⟨w.heap.size + 1, 1, none⟩ (.int .i64 q1)) bb o (m + 1) c (x :: r) q0 q1 0 0 := hst.fr (Fr.setCell (S := fun k => k = w.heap.size + 1) (Fr.refl _ w2) (p := ⟨w.heap.size + 1, 1, none⟩) (fun _ => rfl) _) (bl.set_ 1 (.int .i64 q1))
      have bl0 : w2.cell? ⟨w.heap.size + 1, 1, none⟩ = some (.int .i64 0) := bl.cell 1
      have bf : ∀ i, w2.frozen? ⟨w.heap.size + 1, i, none⟩ = false := bl.frozen
      go_wp2_with fail
      clear hB bz hb bl bl0 bf hst ha1
      have hst := hst2
      clear hst2
      generalize w2.setCell ⟨w.heap.size + 1, 1, none⟩ (.int .i64 q1) = w3 at hst ⊢
      rw [rounds_succ]
      obtain ⟨hB, bz, hb, bl, -⟩ := id hst
      have ha1 : a2 ≤ (x :: r).length := by rw [List.length_cons, hrm]; omega
      go_wp2_with fail
      refine (takeIntR_any (a := a2) hb (by omega) (by rw [List.length_cons, hrm] at ha1; exact ha1)).mono ?_
      rintro ee u ⟨rfl, rfl⟩
      by_cases he : (gInt ⟨(x :: r).drop a2, 0⟩).2.e = 0
      case' neg =>
        rw [tk_err he]
        have HT : Hid (takeP (x :: r) = (pk0, 0, (gInt ⟨(x :: r).drop a2, 0⟩).2.e)) := by
          have hg : (g4 r).2.e = (gInt ⟨(x :: r).drop a2, 0⟩).2.e := by rw [HG.out] <;> simp only [gInt_bad he]
          have := takeP_err (x := x) (r := r) HX.out (by rw [hg]; exact he)
          exact Lib.hid (by rw [this, hg])
        generalize (gInt ⟨(x :: r).drop a2, 0⟩).2.e = E at he HT ⊢
        have he' : (E != 0) = true := by simpa using he
        clear HG he
        have z0 : w3.cell? ⟨w.heap.size, 0, none⟩ = some (.int .i64 0) := bz.cell 0
        have z1 : w3.cell? ⟨w.heap.size, 1, none⟩ = some (.int .i64 0) := bz.cell 1
        have z2 : w3.cell? ⟨w.heap.size, 2, none⟩ = some (.int .i64 0) := bz.cell 2
        have z3 : w3.cell? ⟨w.heap.size, 3, none⟩ = some (.int .i64 0) := bz.cell 3
        have fz : ∀ i, w3.frozen? ⟨w.heap.size, i, none⟩ = false := bz.frozen
        have hzl := bz.lt
        go_wp2_with fail
        have bz9 := Blk.set4 bz (.int .i64 0) (.int .i64 0) (.int .i64 0) (.int .i64 0)
        have hB9 := below_set4 (g := w.heap.size) hB (Nat.le_refl _) (.int .i64 0) (.int .i64 0) (.int .i64 0) (.int .i64 0)
        generalize (((w3.setCell ⟨w.heap.size, 0, none⟩ (.int .i64 0)).setCell ⟨w.heap.size, 1, none⟩ (.int .i64 0)).setCell ⟨w.heap.size, 2, none⟩ (.int .i64 0)).setCell ⟨w.heap.size, 3, none⟩ (.int .i64 0) = w9 at bz9 hB9 ⊢
        have y0 : w9.cell? ⟨w.heap.size, 0, none⟩ = some (.int .i64 0) := bz9.cell 0
        have y1 : w9.cell? ⟨w.heap.size, 1, none⟩ = some (.int .i64 0) := bz9.cell 1
        have y2 : w9.cell? ⟨w.heap.size, 2, none⟩ = some (.int .i64 0) := bz9.cell 2
        have y3 : w9.cell? ⟨w.heap.size, 3, none⟩ = some (.int .i64 0) := bz9.cell 3
        refine bodyPost_ret (v := .tuple #[.agg #[.int .i64 0, .int .i64 0, .int .i64 0, .int .i64 0], .int .i64 0, .int .i64 E]) (by simp [results, Try.results13, go_sem, y0, y1, y2, y3]) rfl ⟨?_, hB9⟩
        rw [HT.out]
        rfl
      obtain ⟨a3, hlt3, hle3, hT, hS⟩ := tk_ok ha1 he
      rw [hT]
      rw [hS] at HG
      generalize (gInt ⟨(x :: r).drop a2, 0⟩).1 = q2 at HG ⊢
      clear he hT hS
      rw [List.length_cons, hrm] at hle3
      have hst3 : TkSt w (w3.setCell ⟨w.heap.size + 1, 2, none⟩ (.int .i64 q2)) bb o (m + 1) c (x :: r) q0 q1 q2 0 := hst.fr (Fr.setCell (S := fun k => k = w.heap.size + 1) (Fr.refl _ w3) (p := ⟨w.heap.size + 1, 2, none⟩) (fun _ => rfl) _) (bl.set_ 2 (.int .i64 q2))
      have bl0 : w3.cell? ⟨w.heap.size + 1, 2, none⟩ = some (.int .i64 0) := bl.cell 2
      have bf : ∀ i, w3.frozen? ⟨w.heap.size + 1, i, none⟩ = false := bl.frozen
      go_wp2_with fail
      clear hB bz hb bl bl0 bf hst ha1
      have hst := hst3
      clear hst3
      generalize w3.setCell ⟨w.heap.size + 1, 2, none⟩ (.int .i64 q2) = w4 at hst ⊢
      rw [rounds_succ]
      obtain ⟨hB, bz, hb, bl, -⟩ := id hst
      have ha1 : a3 ≤ (x :: r).length := by rw [List.length_cons, hrm]; omega
      go_wp2_with fail
      refine (takeIntR_any (a := a3) hb (by omega) (by rw [List.length_cons, hrm] at ha1; exact ha1)).mono ?_
      rintro ee u ⟨rfl, rfl⟩
      by_cases he : (gInt ⟨(x :: r).drop a3, 0⟩).2.e = 0
      case' neg =>
        rw [tk_err he]
        have HT : Hid (takeP (x :: r) = (pk0, 0, (gInt ⟨(x :: r).drop a3, 0⟩).2.e)) := by
          have hg : (g4 r).2.e = (gInt ⟨(x :: r).drop a3, 0⟩).2.e := by rw [HG.out] <;> simp only [gInt_bad he]
          have := takeP_err (x := x) (r := r) HX.out (by rw [hg]; exact he)
          exact Lib.hid (by rw [this, hg])
        generalize (gInt ⟨(x :: r).drop a3, 0⟩).2.e = E at he HT ⊢
        have he' : (E != 0) = true := by simpa using he
        clear HG he
        have z0 : w4.cell? ⟨w.heap.size, 0, none⟩ = some (.int .i64 0) := bz.cell 0
        have z1 : w4.cell? ⟨w.heap.size, 1, none⟩ = some (.int .i64 0) := bz.cell 1
        have z2 : w4.cell? ⟨w.heap.size, 2, none⟩ = some (.int .i64 0) := bz.cell 2
        have z3 : w4.cell? ⟨w.heap.size, 3, none⟩ = some (.int .i64 0) := bz.cell 3
        have fz : ∀ i, w4.frozen? ⟨w.heap.size, i, none⟩ = false := bz.frozen
        have hzl := bz.lt
        go_wp2_with fail
        have bz9 := Blk.set4 bz (.int .i64 0) (.int .i64 0) (.int .i64 0) (.int .i64 0)
        have hB9 := below_set4 (g := w.heap.size) hB (Nat.le_refl _) (.int .i64 0) (.int .i64 0) (.int .i64 0) (.int .i64 0)
        generalize (((w4.setCell ⟨w.heap.size, 0, none⟩ (.int .i64 0)).setCell ⟨w.heap.size, 1, none⟩ (.int .i64 0)).setCell ⟨w.heap.size, 2, none⟩ (.int .i64 0)).setCell ⟨w.heap.size, 3, none⟩ (.int .i64 0) = w9 at bz9 hB9 ⊢
        have y0 : w9.cell? ⟨w.heap.size, 0, none⟩ = some (.int .i64 0) := bz9.cell 0
        have y1 : w9.cell? ⟨w.heap.size, 1, none⟩ = some (.int .i64 0) := bz9.cell 1
        have y2 : w9.cell? ⟨w.heap.size, 2, none⟩ = some (.int .i64 0) := bz9.cell 2
        have y3 : w9.cell? ⟨w.heap.size, 3, none⟩ = some (.int .i64 0) := bz9.cell 3
        refine bodyPost_ret (v := .tuple #[.agg #[.int .i64 0, .int .i64 0, .int .i64 0, .int .i64 0], .int .i64 0, .int .i64 E]) (by simp [results, Try.results13, go_sem, y0, y1, y2, y3]) rfl ⟨?_, hB9⟩
        rw [HT.out]
        rfl
      obtain ⟨a4, hlt4, hle4, hT, hS⟩ := tk_ok ha1 he
      rw [hT]
      rw [hS] at HG
      generalize (gInt ⟨(x :: r).drop a3, 0⟩).1 = q3 at HG ⊢
      clear he hT hS
      rw [List.length_cons, hrm] at hle4
      have hst4 : TkSt w (w4.setCell ⟨w.heap.size + 1, 3, none⟩ (.int .i64 q3)) bb o (m + 1) c (x :: r) q0 q1 q2 q3 := hst.fr (Fr.setCell (S := fun k => k = w.heap.size + 1) (Fr.refl _ w4) (p := ⟨w.heap.size + 1, 3, none⟩) (fun _ => rfl) _) (bl.set_ 3 (.int .i64 q3))
      have bl0 : w4.cell? ⟨w.heap.size + 1, 3, none⟩ = some (.int .i64 0) := bl.cell 3
      have bf : ∀ i, w4.frozen? ⟨w.heap.size + 1, i, none⟩ = false := bl.frozen
      go_wp2_with fail
      clear hB bz hb bl bl0 bf hst ha1
      have hst := hst4
      clear hst4
      generalize w4.setCell ⟨w.heap.size + 1, 3, none⟩ (.int .i64 q3) = w5 at hst ⊢
      rw [rounds_succ]
      obtain ⟨hB, bz, hb, bl, -⟩ := id hst
      have hE : (g4 r).2.e = 0 := by rw [HG.out]
      have hinv := g4_inv hE
      rw [HG.out] at hinv
      simp only at hinv
      have hbytes : x :: r = plB ⟨q0, q1, q2, q3⟩ ++ (x :: r).drop a4 := by
        have hx2 : x = 165 := UInt8.toNat_inj.1 (by rw [HX.out]; rfl)
        have e1 : ∀ s : List UInt8, r = vint q0 ++ vint q1 ++ vint q2 ++ vint q3 ++ s → x :: r = plB ⟨q0, q1, q2, q3⟩ ++ s := fun s h => by rw [h, hx2]; unfold plB; rw [List.cons_append]
        exact e1 _ hinv
      have hdl : ((x :: r).drop a4).length = m + 1 - a4 := by rw [List.length_drop, List.length_cons, hrm]
      have hL : (plB ⟨q0, q1, q2, q3⟩).length = a4 := by
        have := congrArg List.length hbytes
        rw [List.length_append, hdl, List.length_cons, hrm] at this
        omega
      have hok := g4_ok r gInt_rng
      rw [HG.out] at hok
      have HBY := Lib.hid hbytes
      have HL := Lib.hid hL
      have HC1 : Hid (m + 1 - a4 < 4 → takeP (x :: r) = (pk0, 0, 10)) := fun h => takeP_cut HX.out hE (by rw [HG.out]; show ((x :: r).drop a4).length < 4; rw [hdl]; exact h)
      have HC2 : Hid (¬ m + 1 - a4 < 4 → ¬ (((x :: r).drop a4).take 4 = lowB (crc (plB ⟨q0, q1, q2, q3⟩)) ∧ mayP ⟨q0, q1, q2, q3⟩ = true) → takeP (x :: r) = (pk0, 0, 12)) := fun h1 h2 => takeP_bad HX.out hE (by rw [HG.out]; show ¬ ((x :: r).drop a4).length < 4; rw [hdl]; exact h1) (by rw [HG.out]; exact h2)
      have HC3 : Hid (¬ m + 1 - a4 < 4 → (((x :: r).drop a4).take 4 = lowB (crc (plB ⟨q0, q1, q2, q3⟩)) ∧ mayP ⟨q0, q1, q2, q3⟩ = true) → takeP (x :: r) = (⟨q0, q1, q2, q3⟩, a4 + 4, 0)) := fun h1 h2 => by
        have := takeP_good HX.out hE (by rw [HG.out]; show ¬ ((x :: r).drop a4).length < 4; rw [hdl]; exact h1) (by rw [HG.out]; exact h2)
        rw [HG.out] at this
        rw [this]
        show (_, (plB ⟨q0, q1, q2, q3⟩).length + 4, _) = _
        rw [hL]
      clear hE hinv hbytes HG hdl hL hrng hdr
      have l0 : w5.cell? ⟨w.heap.size + 1, 0, none⟩ = some (.int .i64 q0) := bl.cell 0
      have l1 : w5.cell? ⟨w.heap.size + 1, 1, none⟩ = some (.int .i64 q1) := bl.cell 1
      have l2 : w5.cell? ⟨w.heap.size + 1, 2, none⟩ = some (.int .i64 q2) := bl.cell 2
      have l3 : w5.cell? ⟨w.heap.size + 1, 3, none⟩ = some (.int .i64 q3) := bl.cell 3
      have hll := bl.lt
      go_wp2_with fail
      refine wp_region_fen (fun _ => False) [(13, 0), (0, 0)] (by kernel_rfl) (by kernel_rfl) ?_
      simp only [wpSegsF, List.take, List.drop]
      repeat (go_big_quiet_step (fail))
      refine wpQuiet_nil (wpHeadF_want rfl (fun K' hK' => ?_))
      go_wp2_with fail
      refine hK' _ _ rfl (fr_graft (((Fr.refl (fun _ => False) w5).drew).alloc _)) ?_
      clear hK' K'
      try simp only [List.take, List.drop]
      repeat (go_big_quiet_step (fail))
      refine wpQuiet_nil (wpHeadF_want rfl (fun K' hK' => ?_))
      go_wp2_with fail
      refine hK' _ _ rfl (fr_graft (((Fr.refl (fun _ => False) w5).alloc _).drew)) ?_
      clear hK' K'
      try simp only [wpSegsF]
      repeat (go_big_quiet_step (fail))
      refine wpQuiet_nil ?_
      have b6 : Blk (w5.alloc (.cells #[.int .i64 q0, .int .i64 q1, .int .i64 q2, .int .i64 q3] 23)).drew w5.heap.size 23 #[.int .i64 q0, .int .i64 q1, .int .i64 q2, .int .i64 q3] := Blk.new w5 _ _
      have hb6 : Below w5.heap.size w5 (w5.alloc (.cells #[.int .i64 q0, .int .i64 q1, .int .i64 q2, .int .i64 q3] 23)).drew := ((Below.refl _ w5).alloc (Nat.le_refl _) _).drew
      generalize (w5.alloc (.cells #[.int .i64 q0, .int .i64 q1, .int .i64 q2, .int .i64 q3] 23)).drew = w6 at b6 hb6 ⊢
      have hp5 : w.heap.size + 1 < w5.heap.size := hll
      have bz6 := bz.keep hb6
      have hb7 := hb.keep hb6
      have hB6 := hB.trans (hb6.mono hB.size)
      clear hb6
      generalize w5.heap.size = pp at b6 hp5 ⊢
      clear l0 l1 l2 l3 hst hll bz hb hB bl
      have p0 : w6.cell? ⟨pp, 0, none⟩ = some (.int .i64 q0) := b6.cell 0
      have p1 : w6.cell? ⟨pp, 1, none⟩ = some (.int .i64 q1) := b6.cell 1
      have p2 : w6.cell? ⟨pp, 2, none⟩ = some (.int .i64 q2) := b6.cell 2
      have p3 : w6.cell? ⟨pp, 3, none⟩ = some (.int .i64 q3) := b6.cell 3
      by_cases hsh : m + 1 - a4 < 4
      · have HT := Lib.hid (HC1.out hsh)
        have hsh' : m + 1 < a4 + 4 := by omega
        have hsh2 : m < a4 + 3 := by omega
        clear hsh HC1 HC2 HC3
        have z0 : w6.cell? ⟨w.heap.size, 0, none⟩ = some (.int .i64 0) := bz6.cell 0
        have z1 : w6.cell? ⟨w.heap.size, 1, none⟩ = some (.int .i64 0) := bz6.cell 1
        have z2 : w6.cell? ⟨w.heap.size, 2, none⟩ = some (.int .i64 0) := bz6.cell 2
        have z3 : w6.cell? ⟨w.heap.size, 3, none⟩ = some (.int .i64 0) := bz6.cell 3
        have fz : ∀ i, w6.frozen? ⟨w.heap.size, i, none⟩ = false := bz6.frozen
        have hzl := bz6.lt
        go_wp2_with fail
        have bz9 := Blk.set4 bz6 (.int .i64 0) (.int .i64 0) (.int .i64 0) (.int .i64 0)
        have hB9 := below_set4 (g := w.heap.size) hB6 (Nat.le_refl _) (.int .i64 0) (.int .i64 0) (.int .i64 0) (.int .i64 0)
        generalize (((w6.setCell ⟨w.heap.size, 0, none⟩ (.int .i64 0)).setCell ⟨w.heap.size, 1, none⟩ (.int .i64 0)).setCell ⟨w.heap.size, 2, none⟩ (.int .i64 0)).setCell ⟨w.heap.size, 3, none⟩ (.int .i64 0) = w9 at bz9 hB9 ⊢
        have y0 : w9.cell? ⟨w.heap.size, 0, none⟩ = some (.int .i64 0) := bz9.cell 0
        have y1 : w9.cell? ⟨w.heap.size, 1, none⟩ = some (.int .i64 0) := bz9.cell 1
        have y2 : w9.cell? ⟨w.heap.size, 2, none⟩ = some (.int .i64 0) := bz9.cell 2
        have y3 : w9.cell? ⟨w.heap.size, 3, none⟩ = some (.int .i64 0) := bz9.cell 3
        refine bodyPost_ret (v := .tuple #[.agg #[.int .i64 0, .int .i64 0, .int .i64 0, .int .i64 0], .int .i64 0, .int .i64 10]) (by simp [results, Try.results13, go_sem, y0, y1, y2, y3]) rfl ⟨?_, hB9⟩
        rw [HT.out]
        rfl
      · have hsh' : ¬ m + 1 < a4 + 4 := by omega
        have hsh2 : ¬ m < a4 + 3 := by omega
        have hnc := hb7.1.2.1
        have hcut := fun w => run_cut_h u_bytes size1' w (some ⟨bb, o, none⟩) (m + 1) c (a4 + 4) (by omega)
        rw [show ((a4 + 4 : Nat) : Int) = (a4 : Int) + 4 by simp] at hcut
        have hsc := hb7.cut (lo := 0) (hi := a4 + 4) (by omega) (by omega)
        rw [Nat.sub_zero, Nat.sub_zero, List.drop_zero] at hsc
        obtain ⟨X, hXd⟩ : ∃ X, X = (x :: r).take (a4 + 4) := ⟨_, rfl⟩
        rw [← hXd] at hsc
        have hcv : ∀ y, (convert 24 9 (.slice (slA (some ⟨bb, o, none⟩) 0 c 1) (a4 + 4) c)).run Try.prog (graft (fun _ => False) w6 y) = .ok (.string ⟨X.toArray⟩) (graft (fun _ => False) w6 y) := fun y =>
          bytes_str (SlB.fr (S := fun _ => False) hsc (graft_fr _ _ _) (fun _ _ _ _ h => h))
        have htk : Hid (X = plB ⟨q0, q1, q2, q3⟩ ++ ((x :: r).drop a4).take 4) := by
          have e2 : ∀ s : List UInt8, x :: r = plB ⟨q0, q1, q2, q3⟩ ++ s → (x :: r).take (a4 + 4) = plB ⟨q0, q1, q2, q3⟩ ++ s.take 4 := fun s h => by
            rw [h, ← HL.out, List.take_length_add_append]
          unfold Hid
          rw [hXd]
          exact e2 _ HBY.out
        clear hXd
        have hpl := b6.lt
        go_wp2_with fail
        refine wp_region_fen (fun _ => False) [(6, 1), (4, 0)] (by kernel_rfl) (by kernel_rfl) ?_
        simp only [wpSegsF, List.take, List.drop]
        repeat (go_big_quiet_step (fail))
        refine wpQuiet_nil (wpHeadF_fen rfl (fun K' hK' => ?_))
        go_wp2_with fail
        refine (bytesR_any (p := ⟨q0, q1, q2, q3⟩) hok).mono ?_
        rintro ee w7 ⟨v7, rfl, hown7, hb8⟩
        replace hb8 : Below w6.heap.size w6 w7 := (Below.drew (Below.refl _ w6)).trans hb8
        obtain ⟨A7, c7, rfl, hs7, -⟩ := SlB.of_own hown7
        refine hK' _ _ (fun _ => False) rfl (fr_graft (Fr.of_below hb8 _)) ?_
        clear hK' K' hcv hown7
        have hcv : ∀ C y, (convert 24 9 (.slice A7 (packB ⟨q0, q1, q2, q3⟩).length c7)).run Try.prog (fenG C (fun _ => False) w7 y) = .ok (.string ⟨(packB ⟨q0, q1, q2, q3⟩).toArray⟩) (fenG C (fun _ => False) w7 y) := fun C y =>
          bytes_str (SlB.fr (S := fun _ => False) hs7 (fenG_fr _ _ _ _) (fun _ _ _ _ h => h))
        have b7 := b6.keep hb8
        have bz7 := bz6.keep hb8
        have hB7 := hB6.trans (hb8.mono hB6.size)
        clear p0 p1 p2 p3
        have p0 : w7.cell? ⟨pp, 0, none⟩ = some (.int .i64 q0) := b7.cell 0
        have p1 : w7.cell? ⟨pp, 1, none⟩ = some (.int .i64 q1) := b7.cell 1
        have p2 : w7.cell? ⟨pp, 2, none⟩ = some (.int .i64 q2) := b7.cell 2
        have p3 : w7.cell? ⟨pp, 3, none⟩ = some (.int .i64 q3) := b7.cell 3
        have hpl7 := b7.lt
        clear hpl b6 bz6 hB6 hb7
        have HPB : Hid (packB ⟨q0, q1, q2, q3⟩ = plB ⟨q0, q1, q2, q3⟩ ++ lowB (crc (plB ⟨q0, q1, q2, q3⟩))) := rfl
        try simp only [List.take, List.drop]
        by_cases heq : ((x :: r).drop a4).take 4 = lowB (crc (plB ⟨q0, q1, q2, q3⟩))
        · have hX : Hid (X = packB ⟨q0, q1, q2, q3⟩) := by unfold Hid; rw [htk.out, heq, HPB.out]
          rw [hX.out]
          repeat (go_big_quiet_step (fail))
          refine wpQuiet_nil (wpHeadF_want rfl (fun K' hK' => ?_))
          go_wp2_with fail
          refine (mayR_any (p := ⟨q0, q1, q2, q3⟩)).mono ?_
          rintro ee w8 ⟨rfl, hb9⟩
          have hb10 := hb8.trans (hb9.mono hb8.size)
          refine hK' _ _ rfl (fen_graft (Fr.of_below hb9 _) (fr_graft (Fr.of_below hb10 _))) ?_
          clear hK' K'
          try simp only [wpSegsF]
          have b8 := b7.keep hb9
          have bz8 := bz7.keep hb9
          have hB8 := hB7.trans (hb9.mono hB7.size)
          clear p0 p1 p2 p3
          have p0 : w8.cell? ⟨pp, 0, none⟩ = some (.int .i64 q0) := b8.cell 0
          have p1 : w8.cell? ⟨pp, 1, none⟩ = some (.int .i64 q1) := b8.cell 1
          have p2 : w8.cell? ⟨pp, 2, none⟩ = some (.int .i64 q2) := b8.cell 2
          have p3 : w8.cell? ⟨pp, 3, none⟩ = some (.int .i64 q3) := b8.cell 3
          cases hm : mayP ⟨q0, q1, q2, q3⟩ with
          | false =>
            repeat (go_big_quiet_step (fail))
            refine wpQuiet_nil ?_
            have HT := Lib.hid (HC2.out (by omega) (fun h => by rw [hm] at h; cases h.2))
            clear heq HC1 HC2 HC3 hm hcv
            have z0 : w8.cell? ⟨w.heap.size, 0, none⟩ = some (.int .i64 0) := bz8.cell 0
            have z1 : w8.cell? ⟨w.heap.size, 1, none⟩ = some (.int .i64 0) := bz8.cell 1
            have z2 : w8.cell? ⟨w.heap.size, 2, none⟩ = some (.int .i64 0) := bz8.cell 2
            have z3 : w8.cell? ⟨w.heap.size, 3, none⟩ = some (.int .i64 0) := bz8.cell 3
            have fz : ∀ i, w8.frozen? ⟨w.heap.size, i, none⟩ = false := bz8.frozen
            have hzl := bz8.lt
            go_wp2_with fail
            have bz9 := Blk.set4 bz8 (.int .i64 0) (.int .i64 0) (.int .i64 0) (.int .i64 0)
            have hB9 := below_set4 (g := w.heap.size) hB8 (Nat.le_refl _) (.int .i64 0) (.int .i64 0) (.int .i64 0) (.int .i64 0)
            generalize (((w8.setCell ⟨w.heap.size, 0, none⟩ (.int .i64 0)).setCell ⟨w.heap.size, 1, none⟩ (.int .i64 0)).setCell ⟨w.heap.size, 2, none⟩ (.int .i64 0)).setCell ⟨w.heap.size, 3, none⟩ (.int .i64 0) = w9 at bz9 hB9 ⊢
            have y0 : w9.cell? ⟨w.heap.size, 0, none⟩ = some (.int .i64 0) := bz9.cell 0
            have y1 : w9.cell? ⟨w.heap.size, 1, none⟩ = some (.int .i64 0) := bz9.cell 1
            have y2 : w9.cell? ⟨w.heap.size, 2, none⟩ = some (.int .i64 0) := bz9.cell 2
            have y3 : w9.cell? ⟨w.heap.size, 3, none⟩ = some (.int .i64 0) := bz9.cell 3
            refine bodyPost_ret (v := .tuple #[.agg #[.int .i64 0, .int .i64 0, .int .i64 0, .int .i64 0], .int .i64 0, .int .i64 12]) (by simp [results, Try.results13, go_sem, y0, y1, y2, y3]) rfl ⟨?_, hB9⟩
            rw [HT.out]
            rfl
          | true =>
            repeat (go_big_quiet_step (fail))
            refine wpQuiet_nil ?_
            have HT := Lib.hid (HC3.out (by omega) ⟨heq, hm⟩)
            clear heq HC1 HC2 HC3 hm hcv
            have z0 : w8.cell? ⟨w.heap.size, 0, none⟩ = some (.int .i64 0) := bz8.cell 0
            have z1 : w8.cell? ⟨w.heap.size, 1, none⟩ = some (.int .i64 0) := bz8.cell 1
            have z2 : w8.cell? ⟨w.heap.size, 2, none⟩ = some (.int .i64 0) := bz8.cell 2
            have z3 : w8.cell? ⟨w.heap.size, 3, none⟩ = some (.int .i64 0) := bz8.cell 3
            have fz : ∀ i, w8.frozen? ⟨w.heap.size, i, none⟩ = false := bz8.frozen
            have hzl := bz8.lt
            go_wp2_with fail
            have bz9 := Blk.set4 bz8 (.int .i64 q0) (.int .i64 q1) (.int .i64 q2) (.int .i64 q3)
            have hB9 := below_set4 (g := w.heap.size) hB8 (Nat.le_refl _) (.int .i64 q0) (.int .i64 q1) (.int .i64 q2) (.int .i64 q3)
            generalize (((w8.setCell ⟨w.heap.size, 0, none⟩ (.int .i64 q0)).setCell ⟨w.heap.size, 1, none⟩ (.int .i64 q1)).setCell ⟨w.heap.size, 2, none⟩ (.int .i64 q2)).setCell ⟨w.heap.size, 3, none⟩ (.int .i64 q3) = w9 at bz9 hB9 ⊢
            have y0 : w9.cell? ⟨w.heap.size, 0, none⟩ = some (.int .i64 q0) := bz9.cell 0
            have y1 : w9.cell? ⟨w.heap.size, 1, none⟩ = some (.int .i64 q1) := bz9.cell 1
            have y2 : w9.cell? ⟨w.heap.size, 2, none⟩ = some (.int .i64 q2) := bz9.cell 2
            have y3 : w9.cell? ⟨w.heap.size, 3, none⟩ = some (.int .i64 q3) := bz9.cell 3
            refine bodyPost_ret (v := .tuple #[.agg #[.int .i64 q0, .int .i64 q1, .int .i64 q2, .int .i64 q3], .int .i64 ((a4 : Int) + 4), .int .i64 0]) (by simp [results, Try.results13, go_sem, y0, y1, y2, y3]) rfl ⟨?_, hB9⟩
            rw [HT.out]
            rfl
        · have hX : ¬ (⟨X.toArray⟩ : ByteArray) = ⟨(packB ⟨q0, q1, q2, q3⟩).toArray⟩ := by
            intro h
            have h := congrArg (fun s : ByteArray => s.data.toList) h
            simp only [List.toList_toArray] at h
            rw [htk.out, HPB.out] at h
            exact heq (List.append_cancel_left h)
          have HT := Lib.hid (HC2.out (by omega) (fun h => heq h.1))
          generalize (⟨X.toArray⟩ : ByteArray) = S1 at hX ⊢
          generalize (packB ⟨q0, q1, q2, q3⟩).length = LP at hcv ⊢
          generalize (⟨(packB ⟨q0, q1, q2, q3⟩).toArray⟩ : ByteArray) = S2 at hX hcv ⊢
          have hne := str_ne hX
          clear heq HC1 HC2 HC3 hX
          repeat (go_big_quiet_step (fail))
          refine wpQuiet_nil (wpHeadF_skip rfl ?_)
          simp only [Act.put, List.setIfInBounds_toArray, List.set_cons_succ, List.set_cons_zero, wpSegsF]
          repeat (go_big_quiet_step (fail))
          refine wpQuiet_nil ?_
          clear hcv
          have z0 : w7.cell? ⟨w.heap.size, 0, none⟩ = some (.int .i64 0) := bz7.cell 0
          have z1 : w7.cell? ⟨w.heap.size, 1, none⟩ = some (.int .i64 0) := bz7.cell 1
          have z2 : w7.cell? ⟨w.heap.size, 2, none⟩ = some (.int .i64 0) := bz7.cell 2
          have z3 : w7.cell? ⟨w.heap.size, 3, none⟩ = some (.int .i64 0) := bz7.cell 3
          have fz : ∀ i, w7.frozen? ⟨w.heap.size, i, none⟩ = false := bz7.frozen
          have hzl := bz7.lt
          go_wp2_with fail
          have bz9 := Blk.set4 bz7 (.int .i64 0) (.int .i64 0) (.int .i64 0) (.int .i64 0)
          have hB9 := below_set4 (g := w.heap.size) hB7 (Nat.le_refl _) (.int .i64 0) (.int .i64 0) (.int .i64 0) (.int .i64 0)
          generalize (((w7.setCell ⟨w.heap.size, 0, none⟩ (.int .i64 0)).setCell ⟨w.heap.size, 1, none⟩ (.int .i64 0)).setCell ⟨w.heap.size, 2, none⟩ (.int .i64 0)).setCell ⟨w.heap.size, 3, none⟩ (.int .i64 0) = w9 at bz9 hB9 ⊢
          have y0 : w9.cell? ⟨w.heap.size, 0, none⟩ = some (.int .i64 0) := bz9.cell 0
          have y1 : w9.cell? ⟨w.heap.size, 1, none⟩ = some (.int .i64 0) := bz9.cell 1
          have y2 : w9.cell? ⟨w.heap.size, 2, none⟩ = some (.int .i64 0) := bz9.cell 2
          have y3 : w9.cell? ⟨w.heap.size, 3, none⟩ = some (.int .i64 0) := bz9.cell 3
          refine bodyPost_ret (v := .tuple #[.agg #[.int .i64 0, .int .i64 0, .int .i64 0, .int .i64 0], .int .i64 0, .int .i64 12]) (by simp [results, Try.results13, go_sem, y0, y1, y2, y3]) rfl ⟨?_, hB9⟩
          rw [HT.out]
          rfl
    · have hx2 : ((x.toNat : Int) != 165) = true := by simp; omega
      have HT := Lib.hid (takeP_form (r := r) hx)
      clear hx
      go_enter Try.func13, Try.ntmps13
      go_upto_region 3 with fail
      generalize w.alloc (.cells #[.int .i64 0, .int .i64 0, .int .i64 0, .int .i64 0] 23) = w0 at hz bz hc0 ⊢
      have z0 : w0.cell? ⟨w.heap.size, 0, none⟩ = some (.int .i64 0) := bz.cell 0
      have z1 : w0.cell? ⟨w.heap.size, 1, none⟩ = some (.int .i64 0) := bz.cell 1
      have z2 : w0.cell? ⟨w.heap.size, 2, none⟩ = some (.int .i64 0) := bz.cell 2
      have z3 : w0.cell? ⟨w.heap.size, 3, none⟩ = some (.int .i64 0) := bz.cell 3
      have fz : ∀ i, w0.frozen? ⟨w.heap.size, i, none⟩ = false := bz.frozen
      have hzl := bz.lt
      go_wp2_with fail
      have bz9 := Blk.set4 bz (.int .i64 0) (.int .i64 0) (.int .i64 0) (.int .i64 0)
      have hB9 := below_set4 (g := w.heap.size) hz (Nat.le_refl _) (.int .i64 0) (.int .i64 0) (.int .i64 0) (.int .i64 0)
      generalize (((w0.setCell ⟨w.heap.size, 0, none⟩ (.int .i64 0)).setCell ⟨w.heap.size, 1, none⟩ (.int .i64 0)).setCell ⟨w.heap.size, 2, none⟩ (.int .i64 0)).setCell ⟨w.heap.size, 3, none⟩ (.int .i64 0) = w9 at bz9 hB9 ⊢
      have y0 : w9.cell? ⟨w.heap.size, 0, none⟩ = some (.int .i64 0) := bz9.cell 0
      have y1 : w9.cell? ⟨w.heap.size, 1, none⟩ = some (.int .i64 0) := bz9.cell 1
      have y2 : w9.cell? ⟨w.heap.size, 2, none⟩ = some (.int .i64 0) := bz9.cell 2
      have y3 : w9.cell? ⟨w.heap.size, 3, none⟩ = some (.int .i64 0) := bz9.cell 3
      refine bodyPost_ret (v := .tuple #[.agg #[.int .i64 0, .int .i64 0, .int .i64 0, .int .i64 0], .int .i64 0, .int .i64 12]) (by simp [results, Try.results13, go_sem, y0, y1, y2, y3]) rfl ⟨?_, hB9⟩
      rw [HT.out]
      rfl
end Go.Proofs.Ytolohbgfhledoaa
