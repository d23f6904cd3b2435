/- How a slice of events is read. -/
import Derived.Test.YtjjmnkhlcgjfmaaGen
import Derived.Test.YtjjmnkhlcgjfmaaArgs2
import Derived.Test.YtjjmnkhlcgjfmaaEvAll
import Derived.Test.YtjjmnkhlcgjfmaaChecked
namespace Go.Proofs.Ytjjmnkhlcgjfmaa
open Go.ChangeShapes Go.WideShapes Go.ChangeAt Go.RowKit Go.Joins
theorem u_int : Try.prog.underlying 3 = some (.int .i64) := by kernel_rfl
theorem c_int : Try.prog.cellsOf 3 = 1 := by kernel_rfl
def evF : Array Field := #[⟨"Part", 3, 0, false, "", "", 0⟩, ⟨"Win", 3, 1, false, "", "", 8⟩, ⟨"Proc", 3, 2, false, "", "", 16⟩, ⟨"Call", 3, 3, false, "", "", 24⟩, ⟨"Code", 3, 4, false, "", "", 32⟩, ⟨"Value", 3, 5, false, "", "", 40⟩]
theorem u_ev : Try.prog.underlying 39 = some (.struct evF) := by kernel_rfl
theorem ev_hfs : ∀ i, i < 6 → (evF[i]?).map (fun f => (f.type, f.offset)) = some (3, i) := fun i hi => by
  have : i = 0 ∨ i = 1 ∨ i = 2 ∨ i = 3 ∨ i = 4 ∨ i = 5 := by omega
  rcases this with rfl | rfl | rfl | rfl | rfl | rfl <;> rfl
theorem ev_of {zs : List Int} (hl : zs.length = 6) (h : ∀ z ∈ zs, i64 z) : ∃ x : Ev, zs.map (Value.int .i64) = evC x ∧ x.ok := by
  match zs, hl with
  | [a, b, c, d, e, f], _ => exact ⟨⟨a, b, c, d, e, f⟩, rfl, h a (by simp), h b (by simp), h c (by simp), h d (by simp), h e (by simp), h f (by simp)⟩
theorem arg_SlE {H : Type} {enc : TypeId × Value → H} {W : World} {r : Reach} {base : Nat} {v : Value} {d : DataW H} {p : List MemPlace} (hv : Value.okWide Try.prog W r base 36 v)
    (h : DataW.Trod enc Try.prog W 0 (fun _ => true) true 36 v d p) : ∃ A n c l, v = .slice A n c ∧ SlE W A n c l := by
  obtain ⟨A, n, c, l, hvv, hs, hok⟩ := arg_SlG (f := evC) (ok := Ev.ok) (sz := 6) (e := 39) (by kernel_rfl) (by kernel_rfl) (by decide) (fun fuel cs x hl h => by
    obtain ⟨zs, h1, rfl, h3⟩ := trod_ints_row u_ev u_int c_int 6 ev_hfs hl h
    obtain ⟨f, hf, hok⟩ := ev_of h1 h3
    exact ⟨f, hf, hok⟩) hv h
  exact ⟨A, n, c, l, hvv, hs.1, hs.2.1, hok⟩
end Go.Proofs.Ytjjmnkhlcgjfmaa
