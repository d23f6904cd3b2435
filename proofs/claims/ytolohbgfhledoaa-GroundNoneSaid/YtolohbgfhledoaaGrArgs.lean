/- How the arguments of the laws on ground are read. -/
import Derived.Test.YtolohbgfhledoaaGen
import Derived.Test.YtolohbgfhledoaaGrFrames
import Derived.Test.YtolohbgfhledoaaGrSpec
import Derived.Test.YtolohbgfhledoaaChecked
namespace Go.Proofs.Ytolohbgfhledoaa
open Go.ChangeShapes Go.WideShapes Go.ChangeAt Go.RowKit Go.Joins
theorem u_int : Try.prog.underlying 3 = some (.int .i64) := by kernel_rfl
theorem c_int : Try.prog.cellsOf 3 = 1 := by kernel_rfl
theorem u_pk : Try.prog.underlying 23 = some (.struct #[⟨"Seq", 3, 0, false, "", "", 0⟩, ⟨"Kind", 3, 1, false, "", "", 8⟩, ⟨"Frame", 3, 2, false, "", "", 16⟩, ⟨"Value", 3, 3, false, "", "", 24⟩]) := by kernel_rfl
theorem pk_hfs : ∀ i, i < 4 → ((#[⟨"Seq", 3, 0, false, "", "", 0⟩, ⟨"Kind", 3, 1, false, "", "", 8⟩, ⟨"Frame", 3, 2, false, "", "", 16⟩, ⟨"Value", 3, 3, false, "", "", 24⟩] : Array Field)[i]?).map (fun f => (f.type, f.offset)) = some (3, i) := fun i hi => by
  have : i = 0 ∨ i = 1 ∨ i = 2 ∨ i = 3 := by omega
  rcases this with rfl | rfl | rfl | rfl <;> rfl
def pkC (p : Pk) : List Value := [.int .i64 p.q, .int .i64 p.k, .int .i64 p.f, .int .i64 p.v]
theorem pk_of {zs : List Int} (hl : zs.length = 4) (h : ∀ z ∈ zs, i64 z) : ∃ p : Pk, zs.map (Value.int .i64) = pkC p ∧ p.ok := by
  match zs, hl with
  | [a, b, c, d], _ => exact ⟨⟨a, b, c, d⟩, rfl, h a (by simp), h b (by simp), h c (by simp), h d (by simp)⟩
set_option maxRecDepth 100000 in
theorem arg_pk {H : Type} {enc : TypeId × Value → H} {W : World} {r : Reach} {base : Nat} {v : Value} {d : DataW H} {p : List MemPlace} (hv : Value.okWide Try.prog W r base 23 v)
    (h : DataW.Trod enc Try.prog W 0 (fun _ => true) true 23 v d p) : ∃ f : Pk, v = f.val ∧ f.ok := by
  obtain ⟨zs, h1, rfl, h3⟩ := arg_ints_row u_pk u_int c_int 4 (by kernel_rfl) pk_hfs hv h
  obtain ⟨f, hf, hok⟩ := pk_of h1 h3
  exact ⟨f, by rw [hf]; rfl, hok⟩
end Go.Proofs.Ytolohbgfhledoaa
