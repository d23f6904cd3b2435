/- How the arguments of the laws on ground are read. -/
import Derived.Test.YtolohbgfhledoaaGen
import Derived.Test.YtolohbgfhledoaaGrFrames
import Derived.Test.YtolohbgfhledoaaGrSpec
import Derived.Test.YtolohbgfhledoaaChecked
namespace Go.Proofs.Ytolohbgfhledoaa
open Go.ChangeShapes Go.WideShapes Go.ChangeAt Go.RowKit Go.Joins
theorem u_int : Try.prog.underlying 3 = some (.int .i64) := by kernel_rfl
theorem c_int : Try.prog.cellsOf 3 = 1 := by kernel_rfl
theorem u_pk : Try.prog.underlying 23 = some (.struct #[⟨"Seq", 3, 0, false, "", "", 0⟩, ⟨"Kind", 3, 1, false, "", "", 8⟩, ⟨"Frame", 3, 2, false, "", "", 16⟩, ⟨"Value", 3, 3, false, "", "", 24⟩]) := by kernel_rfl
theorem pk_hfs : ∀ i, i < 4 → ((#[⟨"Seq", 3, 0, false, "", "", 0⟩, ⟨"Kind", 3, 1, false, "", "", 8⟩, ⟨"Frame", 3, 2, false, "", "", 16⟩, ⟨"Value", 3, 3, false, "", "", 24⟩] : Array Field)[i]?).map (fun f => (f.type, f.offset)) = some (3, i) := fun i hi => by
  have : i = 0 ∨ i = 1 ∨ i = 2 ∨ i = 3 := by omega
  rcases this with rfl | rfl | rfl | rfl <;> rfl
def pkC (p : Pk) : List Value := [.int .i64 p.q, .int .i64 p.k, .int .i64 p.f, .int .i64 p.v]
theorem pk_of {zs : List Int} (hl : zs.length = 4) (h : ∀ z ∈ zs, i64 z) : ∃ p : Pk, zs.map (Value.int .i64) = pkC p ∧ p.ok := by
  match zs, hl with
  | [a, b, c, d], _ => exact ⟨⟨a, b, c, d⟩, rfl, h a (by simp), h b (by simp), h c (by simp), h d (by simp)⟩
set_option maxRecDepth 100000 in
theorem arg_pk {H : Type} {enc : TypeId × Value → H} {W : World} {r : Reach} {base : Nat} {v : Value} {d : DataW H} {p : List MemPlace} (hv : Value.okWide Try.prog W r base 23 v)
    (h : DataW.Trod enc Try.prog W 0 (fun _ => true) true 23 v d p) : ∃ f : Pk, v = f.val ∧ f.ok := by
  obtain ⟨zs, h1, rfl, h3⟩ := arg_ints_row u_pk u_int c_int 4 (by kernel_rfl) pk_hfs hv h
  obtain ⟨f, hf, hok⟩ := pk_of h1 h3
  exact ⟨f, by rw [hf]; rfl, hok⟩
set_option maxRecDepth 100000 in
theorem arg_pks {H : Type} {enc : TypeId × Value → H} {W : World} {r : Reach} {base : Nat} {v : Value} {d : DataW H} {p : List MemPlace} (hv : Value.okWide Try.prog W r base 48 v)
    (h : DataW.Trod enc Try.prog W 0 (fun _ => true) true 48 v d p) : ∃ A n c l, v = .slice A n c ∧ SlG W A n c 4 pkC l ∧ ∀ f ∈ l, f.ok :=
  arg_SlG (e := 23) (by kernel_rfl) (by kernel_rfl) (by decide) (fun fuel cs x hl h => by
    obtain ⟨zs, h1, rfl, h3⟩ := trod_ints_row u_pk u_int c_int 4 pk_hfs hl h
    obtain ⟨f, hf, hok⟩ := pk_of h1 h3
    exact ⟨f, hf, hok⟩) hv h
theorem u_fm : Try.prog.underlying 78 = some (.struct #[⟨"Reading", 3, 0, false, "", "", 0⟩, ⟨"Mode", 3, 1, false, "", "", 8⟩, ⟨"Drift", 3, 2, false, "", "", 16⟩, ⟨"Choice", 3, 3, false, "", "", 24⟩]) := by kernel_rfl
theorem fm_hfs : ∀ i, i < 4 → ((#[⟨"Reading", 3, 0, false, "", "", 0⟩, ⟨"Mode", 3, 1, false, "", "", 8⟩, ⟨"Drift", 3, 2, false, "", "", 16⟩, ⟨"Choice", 3, 3, false, "", "", 24⟩] : Array Field)[i]?).map (fun f => (f.type, f.offset)) = some (3, i) := fun i hi => by
  have : i = 0 ∨ i = 1 ∨ i = 2 ∨ i = 3 := by omega
  rcases this with rfl | rfl | rfl | rfl <;> rfl
theorem fm_of {zs : List Int} (hl : zs.length = 4) (h : ∀ z ∈ zs, i64 z) : ∃ p : Fm, zs.map (Value.int .i64) = fmC p ∧ p.ok := by
  match zs, hl with
  | [a, b, c, d], _ => exact ⟨⟨a, b, c, d⟩, rfl, h a (by simp), h b (by simp), h c (by simp), h d (by simp)⟩
set_option maxRecDepth 100000 in
theorem arg_fms {H : Type} {enc : TypeId × Value → H} {W : World} {r : Reach} {base : Nat} {v : Value} {d : DataW H} {p : List MemPlace} (hv : Value.okWide Try.prog W r base 47 v)
    (h : DataW.Trod enc Try.prog W 0 (fun _ => true) true 47 v d p) : ∃ A n c l, v = .slice A n c ∧ SlG W A n c 4 fmC l ∧ ∀ f ∈ l, f.ok :=
  arg_SlG (e := 78) (by kernel_rfl) (by kernel_rfl) (by decide) (fun fuel cs x hl h => by
    obtain ⟨zs, h1, rfl, h3⟩ := trod_ints_row u_fm u_int c_int 4 fm_hfs hl h
    obtain ⟨f, hf, hok⟩ := fm_of h1 h3
    exact ⟨f, hf, hok⟩) hv h
end Go.Proofs.Ytolohbgfhledoaa
