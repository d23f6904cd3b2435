/- How the arguments of the laws on mem are read. -/
import Derived.Test.YtpgglefimdllbaaArgs2
import Derived.Test.YtpgglefimdllbaaGen
import Derived.Test.YtpgglefimdllbaaMemNew
import Derived.Test.YtpgglefimdllbaaChecked
namespace Go.Proofs.Ytpgglefimdllbaa
open Go.ChangeShapes Go.WideShapes Go.ChangeAt Go.RowKit Go.Joins
theorem u_int : Try.prog.underlying 3 = some (.int .i64) := by kernel_rfl
theorem c_int : Try.prog.cellsOf 3 = 1 := by kernel_rfl
theorem c_bool : Try.prog.cellsOf 4 = 1 := by kernel_rfl
theorem c_bytes : Try.prog.cellsOf 39 = 1 := by kernel_rfl
theorem u_Sg : Try.prog.underlying 26 = some (.struct #[⟨"Base", 3, 0, false, "", "", 0⟩, ⟨"Size", 3, 1, false, "", "", 8⟩, ⟨"Write", 4, 2, false, "", "", 16⟩]) := by kernel_rfl
theorem u_Ac : Try.prog.underlying 41 = some (.struct #[⟨"Do", 3, 0, false, "", "", 0⟩, ⟨"At", 3, 1, false, "", "", 8⟩, ⟨"N", 3, 2, false, "", "", 16⟩, ⟨"B", 39, 3, false, "", "", 24⟩]) := by kernel_rfl
/-- what is done -/
structure Ac where
  (d a n : Int) (A : Option Addr) (k c : Nat) (b : List UInt8)
def acC (x : Ac) : List Value := [.int .i64 x.d, .int .i64 x.a, .int .i64 x.n, .slice x.A x.k x.c]
def Ac.val (x : Ac) : Value := .agg #[.int .i64 x.d, .int .i64 x.a, .int .i64 x.n, .slice x.A x.k x.c]
def Ac.ok (W : World) (x : Ac) : Prop := i64 x.d ∧ i64 x.a ∧ i64 x.n ∧ SlB W x.A x.k x.c x.b
section
variable {H : Type} {enc : TypeId × Value → H} {W : World}
theorem trod_Ac {fuel : Nat} {cs : List Value} {x : DataW H × List MemPlace} (hl : cs.length = 4) (h : DataW.trod enc Try.prog W 0 (fun _ => true) true fuel 41 cs = some x) : ∃ y, cs = acC y ∧ y.ok W := by
  match cs, hl with
  | [v0, v1, v2, v3], _ =>
    obtain ⟨_, _, g0⟩ := trod_field u_Ac h 0 3 0 1 rfl c_int
    obtain ⟨_, _, g1⟩ := trod_field u_Ac h 1 3 1 1 rfl c_int
    obtain ⟨_, _, g2⟩ := trod_field u_Ac h 2 3 2 1 rfl c_int
    obtain ⟨_, _, g3⟩ := trod_field u_Ac h 3 39 3 1 rfl c_bytes
    obtain ⟨d, rfl, wd⟩ := trod_int_one u_int g0
    obtain ⟨a, rfl, wa⟩ := trod_int_one u_int g1
    obtain ⟨n, rfl, wn⟩ := trod_int_one u_int g2
    obtain ⟨A, k, c, b, rfl, hs⟩ := trod_SlB (e := 5) (by kernel_rfl) (by kernel_rfl) (by kernel_rfl) g3
    exact ⟨⟨d, a, n, A, k, c, b⟩, rfl, i64_of_wf wd, i64_of_wf wa, i64_of_wf wn, hs⟩
theorem trod_Sg {fuel : Nat} {cs : List Value} {x : DataW H × List MemPlace} (hl : cs.length = 3) (h : DataW.trod enc Try.prog W 0 (fun _ => true) true fuel 26 cs = some x) : ∃ s, cs = sgC s ∧ s.ok := by
  match cs, hl with
  | [v0, v1, v2], _ =>
    obtain ⟨_, _, g0⟩ := trod_field u_Sg h 0 3 0 1 rfl c_int
    obtain ⟨_, _, g1⟩ := trod_field u_Sg h 1 3 1 1 rfl c_int
    obtain ⟨_, _, g2⟩ := trod_field u_Sg h 2 4 2 1 rfl c_bool
    obtain ⟨a, rfl, wa⟩ := trod_int_one u_int g0
    obtain ⟨n, rfl, wn⟩ := trod_int_one u_int g1
    obtain ⟨b, e, _⟩ := DataW.trod_bool Try.u_bool g2
    cases e
    exact ⟨⟨a, n, b⟩, rfl, i64_of_wf wa, i64_of_wf wn⟩
theorem arg_Ac {r : Reach} {base : Nat} {v : Value} {d : DataW H} {p : List MemPlace} (hv : Value.okWide Try.prog W r base 41 v) (h : DataW.Trod enc Try.prog W 0 (fun _ => true) true 41 v d p) : ∃ x : Ac, v = x.val ∧ x.ok W := by
  obtain ⟨cs, rfl, hsz⟩ := okWide_struct u_Ac hv
  rw [show Try.prog.cellsOf 41 = 4 by kernel_rfl] at hsz
  obtain ⟨fuel, hf⟩ := h
  obtain ⟨x, h1, h2⟩ := trod_Ac (cs := cs.toList) (by simpa using hsz) hf
  exact ⟨x, by rw [show cs = (acC x).toArray by rw [← h1]]; rfl, h2⟩
theorem arg_Acs {r : Reach} {base : Nat} {v : Value} {d : DataW H} {p : List MemPlace} (hv : Value.okWide Try.prog W r base 35 v) (h : DataW.Trod enc Try.prog W 0 (fun _ => true) true 35 v d p) : ∃ A n c l, v = .slice A n c ∧ SlG W A n c 4 acC l ∧ ∀ x ∈ l, x.ok W :=
  arg_SlG (e := 41) (by kernel_rfl) (by kernel_rfl) (by decide) (fun fuel cs x hl h => trod_Ac hl h) hv h
theorem arg_Sgs {r : Reach} {base : Nat} {v : Value} {d : DataW H} {p : List MemPlace} (hv : Value.okWide Try.prog W r base 27 v) (h : DataW.Trod enc Try.prog W 0 (fun _ => true) true 27 v d p) : ∃ A n c l, v = .slice A n c ∧ SlG W A n c 3 sgC l ∧ ∀ s ∈ l, s.ok :=
  arg_SlG (e := 26) (by kernel_rfl) (by kernel_rfl) (by decide) (fun fuel cs x hl h => trod_Sg hl h) hv h
end
end Go.Proofs.Ytpgglefimdllbaa
