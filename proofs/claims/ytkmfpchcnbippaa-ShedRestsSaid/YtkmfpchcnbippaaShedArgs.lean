/- How the arguments of the laws on shed are read: thresholds, a held level, a configuration's partitions. -/
import Derived.Test.YtkmfpchcnbippaaShedWalks4
import Derived.Test.YtkmfpchcnbippaaLaw
namespace Go.Proofs.Ytkmfpchcnbippaa
open Go.ChangeShapes Go.WideShapes Go.ChangeAt Go.RowKit Go.Joins

theorem u_conf : Try.prog.underlying 24 = some (.struct #[⟨"Down", 22, 0, false, "", "", 0⟩, ⟨"Up", 22, 1, false, "", "", 24⟩]) := by kernel_rfl
theorem u_ints : Try.prog.underlying 22 = some (.slice 3) := by kernel_rfl
theorem u_int : Try.prog.underlying 3 = some (.int .i64) := by kernel_rfl
theorem c_int : Try.prog.cellsOf 3 = 1 := by kernel_rfl
theorem arg_conf {H : Type} {enc : TypeId × Value → H} {W : World} {r : Reach} {base : Nat} {v : Value} {d : DataW H} {p : List MemPlace} (hv : Value.okWide Try.prog W r base 24 v)
    (h : DataW.Trod enc Try.prog W 0 (fun _ => true) true 24 v d p) : ∃ A n c ds B m e us, v = .agg #[.slice A n c, .slice B m e] ∧ SlI W A n c ds ∧ SlI W B m e us := by
  obtain ⟨v0, v1, y0, y1, m, rfl, _, _, h0, h1⟩ := open_agg2 u_conf (by kernel_rfl) (by kernel_rfl) hv h
  obtain ⟨A, n, c, l, rfl, hA⟩ := trod_SlI u_ints u_int c_int h0
  obtain ⟨B, n', c', l', rfl, hB⟩ := trod_SlI u_ints u_int c_int h1
  exact ⟨A, n, c, l, B, n', c', l', rfl, hA, hB⟩

theorem u_held : Try.prog.underlying 33 = some (.struct #[⟨"S", 24, 0, false, "", "", 0⟩, ⟨"Level", 3, 2, false, "", "", 48⟩, ⟨"Reading", 3, 3, false, "", "", 56⟩]) := by kernel_rfl
theorem c_held : Try.prog.cellsOf 33 = 4 := by kernel_rfl
theorem c_conf : Try.prog.cellsOf 24 = 2 := by kernel_rfl
theorem c_ints : Try.prog.cellsOf 22 = 1 := by kernel_rfl
theorem arg_held {H : Type} {enc : TypeId × Value → H} {W : World} {r : Reach} {base : Nat} {v : Value} {d : DataW H} {p : List MemPlace} (hv : Value.okWide Try.prog W r base 33 v)
    (h : DataW.Trod enc Try.prog W 0 (fun _ => true) true 33 v d p) : ∃ A n c ds B m e us x y, v = .agg #[.slice A n c, .slice B m e, .int .i64 x, .int .i64 y] ∧ SlI W A n c ds ∧ SlI W B m e us ∧ i64 x ∧ i64 y := by
  obtain ⟨cs, rfl, hsz⟩ := okWide_struct u_held hv
  rw [c_held] at hsz
  obtain ⟨l⟩ := cs
  match l, hsz with
  | [c0, c1, c2, c3], _ =>
    obtain ⟨fuel, hf⟩ := h
    obtain ⟨n0, y0, g0⟩ := trod_field u_held hf 0 24 0 2 rfl c_conf
    obtain ⟨n1, y1, g1⟩ := trod_field u_held hf 1 3 2 1 rfl c_int
    obtain ⟨n2, y2, g2⟩ := trod_field u_held hf 2 3 3 1 rfl c_int
    obtain ⟨n3, y3, k0⟩ := trod_field u_conf g0 0 22 0 1 rfl c_ints
    obtain ⟨n4, y4, k1⟩ := trod_field u_conf g0 1 22 1 1 rfl c_ints
    obtain ⟨A, n, c, l, rfl, hA⟩ := trod_SlI u_ints u_int c_int k0
    obtain ⟨B, n', c', l', rfl, hB⟩ := trod_SlI u_ints u_int c_int k1
    obtain ⟨x, rfl, wx⟩ := trod_int_one u_int g1
    obtain ⟨y, rfl, wy⟩ := trod_int_one u_int g2
    exact ⟨A, n, c, l, B, n', c', l', x, y, rfl, hA, hB, i64_of_wf wx, i64_of_wf wy⟩

theorem u_part : (Try.prog.underlying 57).bind (fun d : TypeDesc => match d with | .struct fs => some (fs.map fun f : Field => (f.type, f.offset)) | _ => none) = some #[(51, 0), (52, 1), (53, 2), (54, 3), (3, 4), (55, 5), (22, 6), (3, 7), (3, 8), (3, 9), (22, 10)] := by kernel_rfl
theorem u_cfg : (Try.prog.underlying 43).bind (fun d : TypeDesc => match d with | .struct fs => some (fs.map fun f : Field => (f.type, f.offset)) | _ => none) = some #[(35, 0), (36, 1), (37, 2), (41, 3), (24, 11)] := by kernel_rfl
/-- a struct's fields, types and offsets alone. -/
theorem struct_of {d : Option TypeDesc} {l : Array (TypeId × Nat)} (h : d.bind (fun d : TypeDesc => match d with | .struct fs => some (fs.map fun f : Field => (f.type, f.offset)) | _ => none) = some l) : ∃ fs, d = some (.struct fs) ∧ fs.map (fun f : Field => (f.type, f.offset)) = l := by
  cases d with
  | none => cases h
  | some d => cases d <;> simp at h; exact ⟨_, rfl, h⟩
theorem part_cells {H : Type} {enc : TypeId × Value → H} {W : World} {fuel : Nat} {cs : List Value} {x : DataW H × List MemPlace} (hl : cs.length = 11) (h : DataW.trod enc Try.prog W 0 (fun _ => true) true fuel 57 cs = some x) :
    (∀ u ∈ cs, u.oneCell' = true) ∧ ∃ n, cs[9]? = some (.int .i64 n) ∧ i64 n := by
  obtain ⟨fs, hu, hfs⟩ := struct_of u_part
  have hi : ∀ i, (fs[i]?).map (fun f : Field => (f.type, f.offset)) = (#[(51, 0), (52, 1), (53, 2), (54, 3), (3, 4), (55, 5), (22, 6), (3, 7), (3, 8), (3, 9), (22, 10)] : Array (TypeId × Nat))[i]? := fun i => by rw [← hfs, Array.getElem?_map]
  obtain ⟨u0, u1, u2, u3, u4, u5, u6, u7, u8, u9, u10, rfl⟩ := list11 cs hl
  obtain ⟨_, _, g0⟩ := trod_field hu h 0 51 0 1 (hi 0) (by kernel_rfl)
  obtain ⟨_, _, g1⟩ := trod_field hu h 1 52 1 1 (hi 1) (by kernel_rfl)
  obtain ⟨_, _, g2⟩ := trod_field hu h 2 53 2 1 (hi 2) (by kernel_rfl)
  obtain ⟨_, _, g3⟩ := trod_field hu h 3 54 3 1 (hi 3) (by kernel_rfl)
  obtain ⟨_, _, g4⟩ := trod_field hu h 4 3 4 1 (hi 4) (by kernel_rfl)
  obtain ⟨_, _, g5⟩ := trod_field hu h 5 55 5 1 (hi 5) (by kernel_rfl)
  obtain ⟨_, _, g6⟩ := trod_field hu h 6 22 6 1 (hi 6) (by kernel_rfl)
  obtain ⟨_, _, g7⟩ := trod_field hu h 7 3 7 1 (hi 7) (by kernel_rfl)
  obtain ⟨_, _, g8⟩ := trod_field hu h 8 3 8 1 (hi 8) (by kernel_rfl)
  obtain ⟨_, _, g9⟩ := trod_field hu h 9 3 9 1 (hi 9) (by kernel_rfl)
  obtain ⟨_, _, g10⟩ := trod_field hu h 10 22 10 1 (hi 10) (by kernel_rfl)
  have h0 := trod_slice_one (e := 87) (by kernel_rfl) g0
  have h1 := trod_slice_one (e := 89) (by kernel_rfl) g1
  have h2 := trod_slice_one (e := 91) (by kernel_rfl) g2
  have h3 := trod_slice_one (e := 93) (by kernel_rfl) g3
  have h5 := trod_slice_one (e := 95) (by kernel_rfl) g5
  have h6 := trod_slice_one u_ints g6
  have h10 := trod_slice_one u_ints g10
  obtain ⟨n4, rfl, _⟩ := trod_int_one u_int g4
  obtain ⟨n7, rfl, _⟩ := trod_int_one u_int g7
  obtain ⟨n8, rfl, _⟩ := trod_int_one u_int g8
  obtain ⟨n9, rfl, w9⟩ := trod_int_one u_int g9
  refine ⟨fun u hu' => ?_, n9, rfl, i64_of_wf w9⟩
  simp only [List.mem_cons, List.not_mem_nil, or_false] at hu'
  rcases hu' with rfl | rfl | rfl | rfl | rfl | rfl | rfl | rfl | rfl | rfl | rfl <;> first | assumption | rfl
theorem ints_of {p : Nat → Int → Prop} : ∀ (n : Nat), (∀ i, i < n → ∃ x, p i x) → ∃ l : List Int, l.length = n ∧ ∀ i, i < n → p i (at0 l i)
  | 0, _ => ⟨[], rfl, fun i hi => by omega⟩
  | n + 1, h => by
    obtain ⟨l, hl, hp⟩ := ints_of n (fun i hi => h i (by omega))
    obtain ⟨x, hx⟩ := h n (by omega)
    refine ⟨l ++ [x], by simp [hl], fun i hi => ?_⟩
    rcases Nat.lt_or_ge i n with hlt | hge
    · rw [at0_lt (by simp; omega), List.getElem_append_left (by omega), ← at0_lt]
      exact hp i hlt
    · obtain rfl : i = n := by omega
      rw [at0_lt (by simp; omega), List.getElem_append_right (by omega)]
      simpa [hl] using hx
theorem arg_lads {H : Type} {enc : TypeId × Value → H} {W : World} {fuel : Nat} {v : Value} {x : DataW H × List MemPlace} (h : DataW.trod enc Try.prog W 0 (fun _ => true) true fuel 35 [v] = some x) :
    ∃ A n c cs lad, v = .slice A n c ∧ Lads W A n c cs lad := by
  obtain ⟨A, n, c, cs, rfl, hs, he⟩ := trod_Sl (e := 57) (size := 11) (by kernel_rfl) (by kernel_rfl) (by decide) h
  have hl := hs.1
  have hel : ∀ i, i < n → ((cs.drop (i * 11)).take 11).length = 11 := fun i hi => by rw [List.length_take, List.length_drop]; omega
  obtain ⟨lad, hll, hp⟩ := ints_of (p := fun i x => cs[i * 11 + 9]? = some (.int .i64 x) ∧ i64 x) n (fun i hi => by
    obtain ⟨_, _, g⟩ := he i hi
    obtain ⟨_, m, h9, wm⟩ := part_cells (hel i hi) g
    rw [List.getElem?_take, if_pos (by decide), List.getElem?_drop] at h9
    exact ⟨m, h9, wm⟩)
  refine ⟨A, n, c, cs, lad, rfl, hs, fun u hu => ?_, fun i hi => (hp i hi).1, hll, fun x hx => ?_⟩
  · obtain ⟨j, hj⟩ := List.getElem?_of_mem hu
    have hjl : j < n * 11 := by rw [← hl]; exact (List.getElem?_eq_some_iff.1 hj).1
    obtain ⟨_, _, g⟩ := he (j / 11) (by omega)
    refine (part_cells (hel (j / 11) (by omega)) g).1 u (List.mem_of_getElem? (i := j % 11) ?_)
    rw [List.getElem?_take, if_pos (by omega), List.getElem?_drop, show j / 11 * 11 + j % 11 = j by omega]
    exact hj
  · obtain ⟨j, hj⟩ := List.getElem?_of_mem hx
    have hjl : j < lad.length := (List.getElem?_eq_some_iff.1 hj).1
    have := (hp j (by omega)).2
    rw [at0_lt hjl] at this
    rw [List.getElem?_eq_getElem hjl] at hj
    cases hj
    exact this
theorem list13 (l : List Value) (h : l.length = 13) : ∃ u0 u1 u2 u3 u4 u5 u6 u7 u8 u9 u10 u11 u12, l = [u0, u1, u2, u3, u4, u5, u6, u7, u8, u9, u10, u11, u12] := by
  match l, h with
  | [u0, u1, u2, u3, u4, u5, u6, u7, u8, u9, u10, u11, u12], _ => exact ⟨u0, u1, u2, u3, u4, u5, u6, u7, u8, u9, u10, u11, u12, rfl⟩
theorem arg_cfg {H : Type} {enc : TypeId × Value → H} {W : World} {r : Reach} {base : Nat} {v : Value} {d : DataW H} {p : List MemPlace} (hv : Value.okWide Try.prog W r base 43 v)
    (h : DataW.Trod enc Try.prog W 0 (fun _ => true) true 43 v d p) : ∃ A n c cs lad v1 v2 v3 v4 v5 v6 v7 v8 v9 v10 v11 v12, v = .agg #[.slice A n c, v1, v2, v3, v4, v5, v6, v7, v8, v9, v10, v11, v12] ∧ Lads W A n c cs lad := by
  obtain ⟨fs, hu, hfs⟩ := struct_of u_cfg
  have hi : ∀ i, (fs[i]?).map (fun f : Field => (f.type, f.offset)) = (#[(35, 0), (36, 1), (37, 2), (41, 3), (24, 11)] : Array (TypeId × Nat))[i]? := fun i => by rw [← hfs, Array.getElem?_map]
  obtain ⟨⟨l⟩, rfl, hsz⟩ := okWide_struct hu hv
  obtain ⟨u0, u1, u2, u3, u4, u5, u6, u7, u8, u9, u10, u11, u12, rfl⟩ := list13 l (hsz.trans (by kernel_rfl))
  obtain ⟨fuel, hf⟩ := h
  obtain ⟨_, _, g0⟩ := trod_field hu hf 0 35 0 1 (hi 0) (by kernel_rfl)
  obtain ⟨A, n, c, cs, lad, rfl, hL⟩ := arg_lads g0
  exact ⟨A, n, c, cs, lad, u1, u2, u3, u4, u5, u6, u7, u8, u9, u10, u11, u12, rfl, hL⟩
end Go.Proofs.Ytkmfpchcnbippaa
