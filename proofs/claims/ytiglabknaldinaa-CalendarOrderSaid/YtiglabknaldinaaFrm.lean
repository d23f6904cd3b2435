/- How frames are read. Printed by wip/gen_cfg.py frames. -/
import Derived.Test.YtiglabknaldinaaCfg
namespace Go.Proofs.Ytiglabknaldinaa
open Go.ChangeShapes Go.WideShapes Go.ChangeAt Go.RowKit Go.Joins
structure Fm where
  reading : Int
  mode : Int
  drift : Int
  choice : Int
def Fm.f (x : Fm) : List Value := [.int .i64 x.reading, .int .i64 x.mode, .int .i64 x.drift, .int .i64 x.choice]
def Fm0 : Fm := ⟨0, 0, 0, 0⟩
def Fm.ok (W : World) (x : Fm) : Prop := rdInt.ok W x.reading ∧ rdInt.ok W x.mode ∧ rdInt.ok W x.drift ∧ rdInt.ok W x.choice
theorem u_Fm : Try.prog.underlying 76 = some (.struct (fieldsOf 76)) := by kernel_rfl
noncomputable def rdFm : Rd Try.prog 76 Fm where
  sz := 4
  f := Fm.f
  ok := Fm.ok
  len _ := rfl
  keep H hb := ⟨rdInt.keep H.1 hb, rdInt.keep H.2.1 hb, rdInt.keep H.2.2.1 hb, rdInt.keep H.2.2.2 hb⟩
  trod hl h := by
    rename_i cs _
    match cs, hl with
    | [v0, v1, v2, v3], _ =>
      obtain ⟨_, _, g0⟩ := trod_field u_Fm h 0 3 0 1 (by kernel_rfl) (by kernel_rfl)
      obtain ⟨x0, e0, o0⟩ := rdInt.trod rfl g0
      obtain ⟨_, _, g1⟩ := trod_field u_Fm h 1 3 1 1 (by kernel_rfl) (by kernel_rfl)
      obtain ⟨x1, e1, o1⟩ := rdInt.trod rfl g1
      obtain ⟨_, _, g2⟩ := trod_field u_Fm h 2 3 2 1 (by kernel_rfl) (by kernel_rfl)
      obtain ⟨x2, e2, o2⟩ := rdInt.trod rfl g2
      obtain ⟨_, _, g3⟩ := trod_field u_Fm h 3 3 3 1 (by kernel_rfl) (by kernel_rfl)
      obtain ⟨x3, e3, o3⟩ := rdInt.trod rfl g3
      cases e0
      cases e1
      cases e2
      cases e3
      exact ⟨⟨x0, x1, x2, x3⟩, rfl, o0, o1, o2, o3⟩
noncomputable def rdFms : Rd Try.prog 34 (Hd Fm) := rdSl 34 rdFm (by kernel_rfl) (by kernel_rfl) (by decide)
end Go.Proofs.Ytiglabknaldinaa
