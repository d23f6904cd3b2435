/- How the arguments of the laws on monitor are read. -/
import Derived.Test.YtfdnfjcaaagkgaaGen
import Derived.Test.YtfdnfjcaaagkgaaMonSpec
import Derived.Test.YtfdnfjcaaagkgaaChecked
namespace Go.Proofs.Ytfdnfjcaaagkgaa
open Go.ChangeShapes Go.WideShapes Go.ChangeAt Go.RowKit Go.Joins
theorem u_int : Try.prog.underlying 3 = some (.int .i64) := by kernel_rfl
theorem c_int : Try.prog.cellsOf 3 = 1 := by kernel_rfl
theorem u_ints : Try.prog.underlying 22 = some (.slice 3) := by kernel_rfl
theorem u_flt : Try.prog.underlying 34 = some (.struct #[⟨"Kind", 3, 0, false, "", "", 0⟩, ⟨"Proc", 3, 1, false, "", "", 8⟩]) := by kernel_rfl
theorem flt_hfs : ∀ i, i < 2 → ((#[⟨"Kind", 3, 0, false, "", "", 0⟩, ⟨"Proc", 3, 1, false, "", "", 8⟩] : Array Field)[i]?).map (fun f => (f.type, f.offset)) = some (3, i) := fun i hi => by
  have : i = 0 ∨ i = 1 := by omega
  rcases this with rfl | rfl <;> rfl
theorem flt_of {zs : List Int} (hl : zs.length = 2) (h : ∀ z ∈ zs, i64 z) : ∃ f : Flt, zs.map (Value.int .i64) = fltC f ∧ f.ok := by
  match zs, hl with
  | [a, b], _ => exact ⟨⟨a, b⟩, rfl, h a (by simp), h b (by simp)⟩
theorem arg_flts {H : Type} {enc : TypeId × Value → H} {W : World} {r : Reach} {base : Nat} {v : Value} {d : DataW H} {p : List MemPlace} (hv : Value.okWide Try.prog W r base 23 v)
    (h : DataW.Trod enc Try.prog W 0 (fun _ => true) true 23 v d p) : ∃ A n c l, v = .slice A n c ∧ SlG W A n c 2 fltC l ∧ ∀ f ∈ l, f.ok :=
  arg_SlG (e := 34) (by kernel_rfl) (by kernel_rfl) (by decide) (fun fuel cs x hl h => by
    obtain ⟨zs, h1, rfl, h3⟩ := trod_ints_row u_flt u_int c_int 2 flt_hfs hl h
    obtain ⟨f, hf, hok⟩ := flt_of h1 h3
    exact ⟨f, hf, hok⟩) hv h
theorem arg_flt {H : Type} {enc : TypeId × Value → H} {W : World} {r : Reach} {base : Nat} {v : Value} {d : DataW H} {p : List MemPlace} (hv : Value.okWide Try.prog W r base 34 v)
    (h : DataW.Trod enc Try.prog W 0 (fun _ => true) true 34 v d p) : ∃ f : Flt, v = .agg #[.int .i64 f.kind, .int .i64 f.proc] ∧ f.ok := by
  obtain ⟨zs, h1, rfl, h3⟩ := arg_ints_row u_flt u_int c_int 2 (by kernel_rfl) flt_hfs hv h
  obtain ⟨f, hf, hok⟩ := flt_of h1 h3
  exact ⟨f, by rw [hf]; rfl, hok⟩
end Go.Proofs.Ytfdnfjcaaagkgaa
