/- The walks of package ground: the station. -/
import Derived.Test.YtolohbgfhledoaaGrFrames
import Derived.Test.YtolohbgfhledoaaCut
import Derived.Laws.OwnMore
namespace Go.Proofs.Ytolohbgfhledoaa
open Go.RowKit
/-- a station at block g: its frames at first, and now (in a row of its own, from block B on), and how many packets it heard -/
def StSt (w : World) (g B : Nat) (F0 F : List Fm) (nx : Int) : Prop := ∃ A1 c1 v, Blk w g 62 #[.slice A1 F0.length c1, v, .int .i64 nx, .int .i64 nx, .bool true] ∧ SlG w A1 F0.length c1 4 fmC F0 ∧
  (∀ b o, 0 < F0.length → A1 = some ⟨b, o, none⟩ → b < B) ∧ w.ownsRow B 78 4 v F.length (F.flatMap fmC) ∧ B ≤ g ∧ some g ≠ v.ownBlock ∧ F0.length ≤ 64 ∧ F.length ≤ 64
theorem StSt.keep {w w' : World} {g B : Nat} {F0 F : List Fm} {nx : Int} (h : StSt w g B F0 F nx) (hb : Below w.heap.size w w') : StSt w' g B F0 F nx := by
  obtain ⟨A1, c1, v, h1, h2, h3, h4, h5, h6, h7⟩ := h
  exact ⟨A1, c1, v, h1.keep hb, h2.keep hb, h3, own_below h4 hb, h5, h6, h7⟩
theorem sdead_any {w : World} {g B : Nat} {F0 F : List Fm} {nx : Int} (h : StSt w g B F0 F nx) : Calls Try.prog 36 #[.pointer (some ⟨g, 0, none⟩)] w fun e w' => e = .returned (.bool false) ∧ w = w' := by
  obtain ⟨A1, c1, v, h1, _⟩ := h
  have c4 : w.cell? ⟨g, 4, none⟩ = some (.bool true) := h1.cell 4
  go_enter Try.func36, Try.ntmps36
  go_wp2_with fail
  go_ret
  exact ⟨rfl, rfl⟩
/-- a station that is not there, or that no call made -/
def SGone (w : World) (p : Option Addr) : Prop := p = none ∨ ∃ g, p = some ⟨g, 0, none⟩ ∧ w.cell? ⟨g, 4, none⟩ = some (.bool false)
theorem sdead_gone {w : World} {p : Option Addr} (h : SGone w p) : Calls Try.prog 36 #[.pointer p] w fun e w' => e = .returned (.bool true) ∧ w = w' := by
  rcases h with rfl | ⟨g, rfl, c⟩
  · go_enter Try.func36, Try.ntmps36
    go_wp2_with fail
    go_ret
    exact ⟨rfl, rfl⟩
  · go_enter Try.func36, Try.ntmps36
    go_wp2_with fail
    go_ret
    exact ⟨rfl, rfl⟩
theorem next_st {w : World} {g B : Nat} {F0 F : List Fm} {nx : Int} (h : StSt w g B F0 F nx) : Calls Try.prog 22 #[.pointer (some ⟨g, 0, none⟩)] w fun e w' => e = .returned (.int .i64 nx) ∧ w = w' := by
  have hd := sdead_any h
  obtain ⟨A1, c1, v, h1, _⟩ := h
  have c2 : w.cell? ⟨g, 2, none⟩ = some (.int .i64 nx) := h1.cell 2
  go_enter Try.func22, Try.ntmps22
  go_wp2_with fail
  refine hd.mono ?_
  rintro e w2 ⟨rfl, rfl⟩
  go_wp2_with fail
  go_ret
  exact ⟨rfl, rfl⟩
theorem heard_st {w : World} {g B : Nat} {F0 F : List Fm} {nx : Int} (h : StSt w g B F0 F nx) : Calls Try.prog 23 #[.pointer (some ⟨g, 0, none⟩)] w fun e w' => e = .returned (.int .i64 nx) ∧ w = w' := by
  have hd := sdead_any h
  obtain ⟨A1, c1, v, h1, _⟩ := h
  have c3 : w.cell? ⟨g, 3, none⟩ = some (.int .i64 nx) := h1.cell 3
  go_enter Try.func23, Try.ntmps23
  go_wp2_with fail
  refine hd.mono ?_
  rintro e w2 ⟨rfl, rfl⟩
  go_wp2_with fail
  go_ret
  exact ⟨rfl, rfl⟩
theorem next_gone {w : World} {p : Option Addr} (h : SGone w p) : Calls Try.prog 22 #[.pointer p] w fun e w' => e = .returned (.int .i64 0) ∧ w = w' := by
  have hd := sdead_gone h
  go_enter Try.func22, Try.ntmps22
  go_wp2_with fail
  refine hd.mono ?_
  rintro e w2 ⟨rfl, rfl⟩
  go_wp2_with fail
  go_ret
  exact ⟨rfl, rfl⟩
theorem heard_gone {w : World} {p : Option Addr} (h : SGone w p) : Calls Try.prog 23 #[.pointer p] w fun e w' => e = .returned (.int .i64 0) ∧ w = w' := by
  have hd := sdead_gone h
  go_enter Try.func23, Try.ntmps23
  go_wp2_with fail
  refine hd.mono ?_
  rintro e w2 ⟨rfl, rfl⟩
  go_wp2_with fail
  go_ret
  exact ⟨rfl, rfl⟩
theorem frames_gone {w : World} {p : Option Addr} (h : SGone w p) : Calls Try.prog 21 #[.pointer p] w fun e w' => e = .returned (.slice none 0 0) ∧ w = w' := by
  have hd := sdead_gone h
  go_enter Try.func21, Try.ntmps21
  go_wp2_with fail
  refine hd.mono ?_
  rintro e w2 ⟨rfl, rfl⟩
  go_wp2_with fail
  go_ret
  exact ⟨rfl, rfl⟩
theorem frames_st {w : World} {g B : Nat} {F0 F : List Fm} {nx : Int} (h : StSt w g B F0 F nx) : Calls Try.prog 21 #[.pointer (some ⟨g, 0, none⟩)] w fun e w' => ∃ v, e = .returned v ∧ w'.ownsRow w.heap.size 78 4 v F.length (F.flatMap fmC) ∧ Below w.heap.size w w' := by
  have hd := sdead_any h
  obtain ⟨A1, c1, v, h1, _, _, h4, _, _, _, h8⟩ := h
  obtain ⟨A, c, rfl, hs, -⟩ := SlG.of_own h4 (fun _ _ => rfl) rfl
  have c1 : w.cell? ⟨g, 1, none⟩ = some (.slice A F.length c) := h1.cell 1
  go_enter Try.func21, Try.ntmps21
  go_wp2_with fail
  refine hd.mono ?_
  rintro e w2 ⟨rfl, rfl⟩
  go_wp2_with fail
  refine (cloneF_any hs (by omega)).mono ?_
  rintro e w2 ⟨v2, rfl, hown2, hb2⟩
  go_wp2_with fail
  go_ret
  exact ⟨v2, rfl, hown2, hb2⟩
theorem u_frames : Try.prog.underlying 47 = some (.slice (Try.prog.elem 47)) := by kernel_rfl
theorem size4 (w : World) : (sizeOf (Try.prog.elem 47)).run Try.prog w = .ok 4 w := by kernel_rfl
set_option maxRecDepth 100000 in
theorem newS_any {w : World} {A : Option Addr} {n c : Nat} {F : List Fm} (h : SlG w A n c 4 fmC F) (hn : n ≤ 100000) :
    Calls Try.prog 16 #[.slice A n c] w fun e w' => ∃ g B, e = .returned (.pointer (some ⟨g, 0, none⟩)) ∧ StSt w' g B (F.take 64) (F.take 64) 0 ∧ w.heap.size ≤ B ∧ Below w.heap.size w w' := by
  have hnc := h.1.2.1
  have hln := h.2.1
  have hq : ∃ q, q ≤ n ∧ q ≤ 64 ∧ (F.take 64).length = q ∧ SlG w (slA A 0 c 4) q c 4 fmC (F.take 64) ∧ (n ≤ 64 ∧ q = n ∨ ¬ n ≤ 64 ∧ q = 64) := by
    by_cases h64 : n ≤ 64
    · refine ⟨n, Nat.le_refl _, h64, by rw [List.length_take]; omega, ?_, .inl ⟨h64, rfl⟩⟩
      have := h.cut (lo := 0) (hi := n) (by omega) (Nat.le_refl _)
      simp only [Nat.sub_zero, List.drop_zero] at this
      rw [List.take_of_length_le (by omega)] at this ⊢
      exact this
    · refine ⟨64, by omega, Nat.le_refl _, by rw [List.length_take]; omega, ?_, .inr ⟨h64, rfl⟩⟩
      have := h.cut (lo := 0) (hi := 64) (by omega) (by omega)
      simpa using this
  obtain ⟨q, hqn, hq64, hlt, hcut, hcase⟩ := hq
  have hsl := fun w => run_cut_h u_frames size4 w A n c q (by omega)
  generalize F.take 64 = G at hlt hcut
  go_enter Try.func16, Try.ntmps16
  rcases hcase with ⟨h64, rfl⟩ | ⟨h64, rfl⟩
  case' inr =>
    have hsl2 : ∀ w, (Instr.sliceAt 47 (.slice A n c) none (some (.int .i64 64)) none).run Try.prog w = .ok (.slice (slA A 0 c 4) 64 c) w := hsl
  all_goals
    go_wp2_with fail
    refine (cloneF_any hcut (by omega)).mono ?_
    rintro e w1 ⟨v1, rfl, hown1, hb1⟩
    obtain ⟨A1, k1, rfl, hs1, hA1⟩ := SlG.of_own hown1 (fun _ _ => rfl) hlt
    go_wp2_with fail
    refine (cloneF_any (hcut.keep hb1) (by omega)).mono ?_
    rintro e w2 ⟨v2, rfl, hown2, hb2⟩
    obtain ⟨A2, k2, rfl, -, -⟩ := SlG.of_own hown2 (fun _ _ => rfl) hlt
    have hbw := hb1.trans (hb2.mono hb1.size)
    have hbk := fun t cs => Blk.new w2 t cs
    have hbA := fun cs => (Below.refl w2.heap.size w2).alloc (Nat.le_refl _) (.cells cs 62)
    have hlt1 : ∀ b o, 0 < G.length → A1 = some ⟨b, o, none⟩ → b < w1.heap.size := fun b o hp e => by
      obtain ⟨b', o', e', hb', _⟩ := hs1.1.at_ (by omega)
      rw [e'] at e
      cases e
      exact hb'
    have hown2' := hown2.lt
    clear hsl hown1
    go_wp2_with fail
    go_ret
    refine ⟨w2.heap.size, w1.heap.size, rfl, ⟨A1, k1, _, by rw [hlt]; exact hbk _ _, by rw [hlt]; exact (hs1.keep hb2).keep (hbA _), hlt1, by rw [hlt]; exact own_below hown2 (hbA _), hb2.size, fun e => ?_, by omega, by omega⟩, hb1.size, hbw.trans ((hbA _).mono hbw.size)⟩
    have := (hown2.lt _ e.symm).2
    omega
end Go.Proofs.Ytolohbgfhledoaa
