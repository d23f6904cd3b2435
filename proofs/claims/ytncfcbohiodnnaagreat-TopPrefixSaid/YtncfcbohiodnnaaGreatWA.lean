/- Parts of this seat's claims. -/
import Derived.Test.YtncfcbohiodnnaaGreatProg
import Derived.WalkKit
import Derived.Lib.Hide
set_option maxRecDepth 100000
set_option maxHeartbeats 6400000
namespace Go.Proofs.YtncfcbohiodnnaaGreat
open Go.RowKit
abbrev ii : Int → Value := Value.int .i64
abbrev pp (b : Nat) : Value := .pointer (some ⟨b, 0, none⟩)
abbrev bW (w w' : World) : Prop := Below w.heap.size w w'
abbrev cP := Calls Tryz.prog
theorem zhd {p : Prop} (h : p) : Hid p := h
theorem zo {p : Prop} (h : p := by omega) : p := h
theorem zd {p : Prop} (h : p := by decide) : p := h
theorem zp {p : Prop} (h : p := by simp) : p := h
theorem zk {p : Prop} (h : p := by kernel_rfl) : p := h
theorem zr {p : Prop} (h : p := by rfl) : p := h
theorem inC {f : FuncId} {a : Array Value} {w : World} {R : Ending → World → Prop} (h : Calls Tryz.prog f a w R) : Calls Tryz.prog f a w R := h
end Go.Proofs.YtncfcbohiodnnaaGreat
