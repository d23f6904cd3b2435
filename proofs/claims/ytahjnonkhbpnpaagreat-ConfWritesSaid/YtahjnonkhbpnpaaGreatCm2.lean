/- Words and walks for the claims of this seat, merged: Cfg, CwOne, CwSpec, RfBase, CwElem. -/
import Derived.Test.YtahjnonkhbpnpaaGreatChecked
import Derived.Test.YtahjnonkhbpnpaaGreatCm0
import Derived.Test.YtahjnonkhbpnpaaGreatCm1
/- How a configuration is read: each struct's cells, what is known of them, and how an argument is read. Printed by wip/gen_cfg.py. -/
namespace Go.Proofs.YtahjnonkhbpnpaaGreat
open Go.ChangeShapes Go.WideShapes Go.ChangeAt Go.RowKit Go.Joins
theorem owns_le {w : World} {base : Nat} {e : TypeId} {sz : Nat} {v : Value} {n : Nat} {xs : List Value} (h : w.ownsRow base e sz v n xs) (k : Nat) (hk : v.ownBlock = some k) : base ≤ k := by
  rcases h.2 with ⟨rfl, _⟩ | ⟨g, cap, cur, rfl, hb, _⟩
  · cases hk
  · cases hk; exact hb
theorem app_below {wo w w' : World} {e : TypeId} {sz : Nat} {v : Value} {n : Nat} {xs : List Value} (hB : Below wo.heap.size wo w) (h : w.ownsRow wo.heap.size e sz v n xs) (hf : Fr (fun k => v.ownBlock = some k) w w') : Below wo.heap.size wo w' :=
  hB.trans (hf.below (fun k hk h' => by have := owns_le h k h'; omega) hB.size)
/-- a slice's head, and what it holds. -/
structure Hd (α : Type) where
  A : Option Addr
  c : Nat
  l : List α
def Hd.v {α : Type} (h : Hd α) : Value := .slice h.A h.l.length h.c
/-- how a type's cells are read. -/
structure Rd (P : Program) (t : TypeId) (α : Type) where
  sz : Nat
  f : α → List Value
  ok : World → α → Prop
  len : ∀ x, (f x).length = sz
  keep : ∀ {W W' : World} {x : α}, ok W x → Below W.heap.size W W' → ok W' x
  trod : ∀ {H : Type} {enc : TypeId × Value → H} {W : World} {fuel : Nat} {cs : List Value} {x : DataW H × List MemPlace}, cs.length = sz → DataW.trod enc P W 0 (fun _ => true) true fuel t cs = some x → ∃ a, cs = f a ∧ ok W a
theorem u_int : Tryz.prog.underlying 3 = some (.int .i64) := by kernel_rfl
theorem u_ints : Tryz.prog.underlying 29 = some (.slice 3) := by kernel_rfl
theorem c_int : Tryz.prog.cellsOf 3 = 1 := by kernel_rfl
def rdInt : Rd Tryz.prog 3 Int where
  sz := 1
  f z := [.int .i64 z]
  ok _ z := i64 z
  len _ := rfl
  keep h _ := h
  trod hl h := by
    rename_i cs _
    match cs, hl with
    | [v], _ =>
      obtain ⟨n, rfl, wn⟩ := trod_int_one u_int h
      exact ⟨n, rfl, i64_of_wf wn⟩
def rdBool : Rd Tryz.prog 4 Bool where
  sz := 1
  f b := [.bool b]
  ok _ _ := True
  len _ := rfl
  keep h _ := h
  trod hl h := by
    rename_i cs _
    match cs, hl with
    | [v], _ =>
      obtain ⟨b, e, _⟩ := DataW.trod_bool Tryz.u_bool h
      exact ⟨b, e, trivial⟩
def Hd.okI (W : World) (h : Hd Int) : Prop := SlI W h.A h.l.length h.c h.l
def rdInts : Rd Tryz.prog 29 (Hd Int) where
  sz := 1
  f h := [h.v]
  ok W h := h.okI W
  len _ := rfl
  keep h hb := SlI.keep h hb
  trod hl h := by
    rename_i cs _
    match cs, hl with
    | [v], _ =>
      obtain ⟨A, n, c, l, rfl, hs⟩ := trod_SlI u_ints u_int c_int h
      have := hs.2.1
      subst this
      exact ⟨⟨A, c, l⟩, rfl, hs⟩
def Hd.ok {P : Program} {α : Type} {e : TypeId} (r : Rd P e α) (W : World) (h : Hd α) : Prop := SlG W h.A h.l.length h.c r.sz r.f h.l ∧ ∀ x ∈ h.l, r.ok W x
theorem Hd.ok.keep {P : Program} {α : Type} {e : TypeId} {r : Rd P e α} {W W' : World} {h : Hd α} (H : h.ok r W) (hb : Below W.heap.size W W') : h.ok r W' := ⟨H.1.keep hb, fun x hx => r.keep (H.2 x hx) hb⟩
/-- a slice of what is read. -/
def rdSl {P : Program} {α : Type} {e : TypeId} (t : TypeId) (r : Rd P e α) (ht : P.underlying t = some (.slice e)) (hC : P.cellsOf e = r.sz) (hs : 0 < r.sz) : Rd P t (Hd α) where
  sz := 1
  f h := [h.v]
  ok W h := h.ok r W
  len _ := rfl
  keep H hb := H.keep hb
  trod hl h := by
    rename_i cs _
    match cs, hl with
    | [v], _ =>
      obtain ⟨A, n, c, l, rfl, hsl, hok⟩ := trod_SlG (f := r.f) (ok := r.ok _) ht hC hs (fun fuel cs x hl h => r.trod hl h) h
      have := hsl.2.1
      subst this
      exact ⟨⟨A, c, l⟩, rfl, hsl, hok⟩
theorem rd_arg {P : Program} {t : TypeId} {α : Type} (R : Rd P t α) {fs : Array Field} (hu : P.underlying t = some (.struct fs)) (hC : P.cellsOf t = R.sz) {H : Type} {enc : TypeId × Value → H} {W : World} {r : Reach} {base : Nat} {v : Value} {d : DataW H} {p : List MemPlace}
    (hv : Value.okWide P W r base t v) (h : DataW.Trod enc P W 0 (fun _ => true) true t v d p) : ∃ x, v = .agg (R.f x).toArray ∧ R.ok W x := by
  obtain ⟨cs, rfl, hsz⟩ := okWide_struct hu hv
  obtain ⟨fuel, hf⟩ := h
  obtain ⟨x, h1, h2⟩ := R.trod (cs := cs.toList) (by simpa [hC] using hsz) hf
  exact ⟨x, by rw [← h1], h2⟩
theorem rd_args {P : Program} {t : TypeId} {α : Type} {e : TypeId} (R : Rd P t (Hd α)) (hf : ∀ h, R.f h = [h.v]) (hsz : R.sz = 1) (ht : P.underlying t = some (.slice e)) {H : Type} {enc : TypeId × Value → H} {W : World} {r : Reach} {base : Nat} {v : Value} {d : DataW H} {p : List MemPlace}
    (hv : Value.okWide P W r base t v) (h : DataW.Trod enc P W 0 (fun _ => true) true t v d p) : ∃ x, v = x.v ∧ R.ok W x := by
  obtain ⟨a, len, cap, rfl⟩ := okWide_slice ht hv
  obtain ⟨fuel, hf'⟩ := h
  obtain ⟨x, h1, h2⟩ := R.trod (cs := [.slice a len cap]) (by rw [hsz]; rfl) (by simpa [Value.cells] using hf')
  rw [hf] at h1
  exact ⟨x, by injection h1, h2⟩
noncomputable def fieldsOf (t : TypeId) : Array Field := match Tryz.prog.underlying t with | some (.struct fs) => fs | _ => #[]
structure Rg where
  base : Int
  size : Int
  wr : Bool
def Rg.f (x : Rg) : List Value := [.int .i64 x.base, .int .i64 x.size, .bool x.wr]
def Rg0 : Rg := ⟨0, 0, false⟩
def Rg.ok (W : World) (x : Rg) : Prop := rdInt.ok W x.base ∧ rdInt.ok W x.size ∧ rdBool.ok W x.wr
theorem u_Rg : Tryz.prog.underlying 124 = some (.struct (fieldsOf 124)) := by kernel_rfl
noncomputable def rdRg : Rd Tryz.prog 124 Rg where
  sz := 3
  f := Rg.f
  ok := Rg.ok
  len _ := rfl
  keep H hb := ⟨rdInt.keep H.1 hb, rdInt.keep H.2.1 hb, rdBool.keep H.2.2 hb⟩
  trod hl h := by
    rename_i cs _
    match cs, hl with
    | [v0, v1, v2], _ =>
      obtain ⟨_, _, g0⟩ := trod_field u_Rg h 0 3 0 1 (by kernel_rfl) (by kernel_rfl)
      obtain ⟨x0, e0, o0⟩ := rdInt.trod rfl g0
      obtain ⟨_, _, g1⟩ := trod_field u_Rg h 1 3 1 1 (by kernel_rfl) (by kernel_rfl)
      obtain ⟨x1, e1, o1⟩ := rdInt.trod rfl g1
      obtain ⟨_, _, g2⟩ := trod_field u_Rg h 2 4 2 1 (by kernel_rfl) (by kernel_rfl)
      obtain ⟨x2, e2, o2⟩ := rdBool.trod rfl g2
      cases e0
      cases e1
      cases e2
      exact ⟨⟨x0, x1, x2⟩, rfl, o0, o1, o2⟩
structure Pc where
  prio : Int
  per : Int
  cost : Int
def Pc.f (x : Pc) : List Value := [.int .i64 x.prio, .int .i64 x.per, .int .i64 x.cost]
def Pc0 : Pc := ⟨0, 0, 0⟩
def Pc.ok (W : World) (x : Pc) : Prop := rdInt.ok W x.prio ∧ rdInt.ok W x.per ∧ rdInt.ok W x.cost
theorem u_Pc : Tryz.prog.underlying 129 = some (.struct (fieldsOf 129)) := by kernel_rfl
noncomputable def rdPc : Rd Tryz.prog 129 Pc where
  sz := 3
  f := Pc.f
  ok := Pc.ok
  len _ := rfl
  keep H hb := ⟨rdInt.keep H.1 hb, rdInt.keep H.2.1 hb, rdInt.keep H.2.2 hb⟩
  trod hl h := by
    rename_i cs _
    match cs, hl with
    | [v0, v1, v2], _ =>
      obtain ⟨_, _, g0⟩ := trod_field u_Pc h 0 3 0 1 (by kernel_rfl) (by kernel_rfl)
      obtain ⟨x0, e0, o0⟩ := rdInt.trod rfl g0
      obtain ⟨_, _, g1⟩ := trod_field u_Pc h 1 3 1 1 (by kernel_rfl) (by kernel_rfl)
      obtain ⟨x1, e1, o1⟩ := rdInt.trod rfl g1
      obtain ⟨_, _, g2⟩ := trod_field u_Pc h 2 3 2 1 (by kernel_rfl) (by kernel_rfl)
      obtain ⟨x2, e2, o2⟩ := rdInt.trod rfl g2
      cases e0
      cases e1
      cases e2
      exact ⟨⟨x0, x1, x2⟩, rfl, o0, o1, o2⟩
structure Po where
  q : Bool
  inn : Bool
  size : Int
  depth : Int
def Po.f (x : Po) : List Value := [.bool x.q, .bool x.inn, .int .i64 x.size, .int .i64 x.depth]
def Po0 : Po := ⟨false, false, 0, 0⟩
def Po.ok (W : World) (x : Po) : Prop := rdBool.ok W x.q ∧ rdBool.ok W x.inn ∧ rdInt.ok W x.size ∧ rdInt.ok W x.depth
theorem u_Po : Tryz.prog.underlying 133 = some (.struct (fieldsOf 133)) := by kernel_rfl
noncomputable def rdPo : Rd Tryz.prog 133 Po where
  sz := 4
  f := Po.f
  ok := Po.ok
  len _ := rfl
  keep H hb := ⟨rdBool.keep H.1 hb, rdBool.keep H.2.1 hb, rdInt.keep H.2.2.1 hb, rdInt.keep H.2.2.2 hb⟩
  trod hl h := by
    rename_i cs _
    match cs, hl with
    | [v0, v1, v2, v3], _ =>
      obtain ⟨_, _, g0⟩ := trod_field u_Po h 0 4 0 1 (by kernel_rfl) (by kernel_rfl)
      obtain ⟨x0, e0, o0⟩ := rdBool.trod rfl g0
      obtain ⟨_, _, g1⟩ := trod_field u_Po h 1 4 1 1 (by kernel_rfl) (by kernel_rfl)
      obtain ⟨x1, e1, o1⟩ := rdBool.trod rfl g1
      obtain ⟨_, _, g2⟩ := trod_field u_Po h 2 3 2 1 (by kernel_rfl) (by kernel_rfl)
      obtain ⟨x2, e2, o2⟩ := rdInt.trod rfl g2
      obtain ⟨_, _, g3⟩ := trod_field u_Po h 3 3 3 1 (by kernel_rfl) (by kernel_rfl)
      obtain ⟨x3, e3, o3⟩ := rdInt.trod rfl g3
      cases e0
      cases e1
      cases e2
      cases e3
      exact ⟨⟨x0, x1, x2, x3⟩, rfl, o0, o1, o2, o3⟩
structure Sm where
  first : Int
  most : Int
def Sm.f (x : Sm) : List Value := [.int .i64 x.first, .int .i64 x.most]
def Sm0 : Sm := ⟨0, 0⟩
def Sm.ok (W : World) (x : Sm) : Prop := rdInt.ok W x.first ∧ rdInt.ok W x.most
theorem u_Sm : Tryz.prog.underlying 137 = some (.struct (fieldsOf 137)) := by kernel_rfl
noncomputable def rdSm : Rd Tryz.prog 137 Sm where
  sz := 2
  f := Sm.f
  ok := Sm.ok
  len _ := rfl
  keep H hb := ⟨rdInt.keep H.1 hb, rdInt.keep H.2 hb⟩
  trod hl h := by
    rename_i cs _
    match cs, hl with
    | [v0, v1], _ =>
      obtain ⟨_, _, g0⟩ := trod_field u_Sm h 0 3 0 1 (by kernel_rfl) (by kernel_rfl)
      obtain ⟨x0, e0, o0⟩ := rdInt.trod rfl g0
      obtain ⟨_, _, g1⟩ := trod_field u_Sm h 1 3 1 1 (by kernel_rfl) (by kernel_rfl)
      obtain ⟨x1, e1, o1⟩ := rdInt.trod rfl g1
      cases e0
      cases e1
      exact ⟨⟨x0, x1⟩, rfl, o0, o1⟩
structure Pl where
  size : Int
  depth : Int
def Pl.f (x : Pl) : List Value := [.int .i64 x.size, .int .i64 x.depth]
def Pl0 : Pl := ⟨0, 0⟩
def Pl.ok (W : World) (x : Pl) : Prop := rdInt.ok W x.size ∧ rdInt.ok W x.depth
theorem u_Pl : Tryz.prog.underlying 142 = some (.struct (fieldsOf 142)) := by kernel_rfl
noncomputable def rdPl : Rd Tryz.prog 142 Pl where
  sz := 2
  f := Pl.f
  ok := Pl.ok
  len _ := rfl
  keep H hb := ⟨rdInt.keep H.1 hb, rdInt.keep H.2 hb⟩
  trod hl h := by
    rename_i cs _
    match cs, hl with
    | [v0, v1], _ =>
      obtain ⟨_, _, g0⟩ := trod_field u_Pl h 0 3 0 1 (by kernel_rfl) (by kernel_rfl)
      obtain ⟨x0, e0, o0⟩ := rdInt.trod rfl g0
      obtain ⟨_, _, g1⟩ := trod_field u_Pl h 1 3 1 1 (by kernel_rfl) (by kernel_rfl)
      obtain ⟨x1, e1, o1⟩ := rdInt.trod rfl g1
      cases e0
      cases e1
      exact ⟨⟨x0, x1⟩, rfl, o0, o1⟩
noncomputable def rdRgs : Rd Tryz.prog 49 (Hd Rg) := rdSl 49 rdRg (by kernel_rfl) (by kernel_rfl) (by decide)
noncomputable def rdPcs : Rd Tryz.prog 50 (Hd Pc) := rdSl 50 rdPc (by kernel_rfl) (by kernel_rfl) (by decide)
noncomputable def rdPos : Rd Tryz.prog 51 (Hd Po) := rdSl 51 rdPo (by kernel_rfl) (by kernel_rfl) (by decide)
noncomputable def rdSms : Rd Tryz.prog 52 (Hd Sm) := rdSl 52 rdSm (by kernel_rfl) (by kernel_rfl) (by decide)
noncomputable def rdPls : Rd Tryz.prog 53 (Hd Pl) := rdSl 53 rdPl (by kernel_rfl) (by kernel_rfl) (by decide)
structure Pt where
  regs : Hd Rg
  procs : Hd Pc
  ports : Hd Po
  sems : Hd Sm
  flags : Int
  pools : Hd Pl
  slates : Hd Int
  cap : Int
  bud : Int
  lad : Int
  acts : Hd Int
def Pt.f (x : Pt) : List Value := [x.regs.v, x.procs.v, x.ports.v, x.sems.v, .int .i64 x.flags, x.pools.v, x.slates.v, .int .i64 x.cap, .int .i64 x.bud, .int .i64 x.lad, x.acts.v]
def Pt0 : Pt := ⟨⟨none, 0, []⟩, ⟨none, 0, []⟩, ⟨none, 0, []⟩, ⟨none, 0, []⟩, 0, ⟨none, 0, []⟩, ⟨none, 0, []⟩, 0, 0, 0, ⟨none, 0, []⟩⟩
def Pt.ok (W : World) (x : Pt) : Prop := rdRgs.ok W x.regs ∧ rdPcs.ok W x.procs ∧ rdPos.ok W x.ports ∧ rdSms.ok W x.sems ∧ rdInt.ok W x.flags ∧ rdPls.ok W x.pools ∧ rdInts.ok W x.slates ∧ rdInt.ok W x.cap ∧ rdInt.ok W x.bud ∧ rdInt.ok W x.lad ∧ rdInts.ok W x.acts
theorem u_Pt : Tryz.prog.underlying 55 = some (.struct (fieldsOf 55)) := by kernel_rfl
noncomputable def rdPt : Rd Tryz.prog 55 Pt where
  sz := 11
  f := Pt.f
  ok := Pt.ok
  len _ := rfl
  keep H hb := ⟨rdRgs.keep H.1 hb, rdPcs.keep H.2.1 hb, rdPos.keep H.2.2.1 hb, rdSms.keep H.2.2.2.1 hb, rdInt.keep H.2.2.2.2.1 hb, rdPls.keep H.2.2.2.2.2.1 hb, rdInts.keep H.2.2.2.2.2.2.1 hb, rdInt.keep H.2.2.2.2.2.2.2.1 hb, rdInt.keep H.2.2.2.2.2.2.2.2.1 hb, rdInt.keep H.2.2.2.2.2.2.2.2.2.1 hb, rdInts.keep H.2.2.2.2.2.2.2.2.2.2 hb⟩
  trod hl h := by
    rename_i cs _
    match cs, hl with
    | [v0, v1, v2, v3, v4, v5, v6, v7, v8, v9, v10], _ =>
      obtain ⟨_, _, g0⟩ := trod_field u_Pt h 0 49 0 1 (by kernel_rfl) (by kernel_rfl)
      obtain ⟨x0, e0, o0⟩ := rdRgs.trod rfl g0
      obtain ⟨_, _, g1⟩ := trod_field u_Pt h 1 50 1 1 (by kernel_rfl) (by kernel_rfl)
      obtain ⟨x1, e1, o1⟩ := rdPcs.trod rfl g1
      obtain ⟨_, _, g2⟩ := trod_field u_Pt h 2 51 2 1 (by kernel_rfl) (by kernel_rfl)
      obtain ⟨x2, e2, o2⟩ := rdPos.trod rfl g2
      obtain ⟨_, _, g3⟩ := trod_field u_Pt h 3 52 3 1 (by kernel_rfl) (by kernel_rfl)
      obtain ⟨x3, e3, o3⟩ := rdSms.trod rfl g3
      obtain ⟨_, _, g4⟩ := trod_field u_Pt h 4 3 4 1 (by kernel_rfl) (by kernel_rfl)
      obtain ⟨x4, e4, o4⟩ := rdInt.trod rfl g4
      obtain ⟨_, _, g5⟩ := trod_field u_Pt h 5 53 5 1 (by kernel_rfl) (by kernel_rfl)
      obtain ⟨x5, e5, o5⟩ := rdPls.trod rfl g5
      obtain ⟨_, _, g6⟩ := trod_field u_Pt h 6 29 6 1 (by kernel_rfl) (by kernel_rfl)
      obtain ⟨x6, e6, o6⟩ := rdInts.trod rfl g6
      obtain ⟨_, _, g7⟩ := trod_field u_Pt h 7 3 7 1 (by kernel_rfl) (by kernel_rfl)
      obtain ⟨x7, e7, o7⟩ := rdInt.trod rfl g7
      obtain ⟨_, _, g8⟩ := trod_field u_Pt h 8 3 8 1 (by kernel_rfl) (by kernel_rfl)
      obtain ⟨x8, e8, o8⟩ := rdInt.trod rfl g8
      obtain ⟨_, _, g9⟩ := trod_field u_Pt h 9 3 9 1 (by kernel_rfl) (by kernel_rfl)
      obtain ⟨x9, e9, o9⟩ := rdInt.trod rfl g9
      obtain ⟨_, _, g10⟩ := trod_field u_Pt h 10 29 10 1 (by kernel_rfl) (by kernel_rfl)
      obtain ⟨x10, e10, o10⟩ := rdInts.trod rfl g10
      cases e0
      cases e1
      cases e2
      cases e3
      cases e4
      cases e5
      cases e6
      cases e7
      cases e8
      cases e9
      cases e10
      exact ⟨⟨x0, x1, x2, x3, x4, x5, x6, x7, x8, x9, x10⟩, rfl, o0, o1, o2, o3, o4, o5, o6, o7, o8, o9, o10⟩
structure En where
  part : Int
  port : Int
def En.f (x : En) : List Value := [.int .i64 x.part, .int .i64 x.port]
def En0 : En := ⟨0, 0⟩
def En.ok (W : World) (x : En) : Prop := rdInt.ok W x.part ∧ rdInt.ok W x.port
theorem u_En : Tryz.prog.underlying 70 = some (.struct (fieldsOf 70)) := by kernel_rfl
noncomputable def rdEn : Rd Tryz.prog 70 En where
  sz := 2
  f := En.f
  ok := En.ok
  len _ := rfl
  keep H hb := ⟨rdInt.keep H.1 hb, rdInt.keep H.2 hb⟩
  trod hl h := by
    rename_i cs _
    match cs, hl with
    | [v0, v1], _ =>
      obtain ⟨_, _, g0⟩ := trod_field u_En h 0 3 0 1 (by kernel_rfl) (by kernel_rfl)
      obtain ⟨x0, e0, o0⟩ := rdInt.trod rfl g0
      obtain ⟨_, _, g1⟩ := trod_field u_En h 1 3 1 1 (by kernel_rfl) (by kernel_rfl)
      obtain ⟨x1, e1, o1⟩ := rdInt.trod rfl g1
      cases e0
      cases e1
      exact ⟨⟨x0, x1⟩, rfl, o0, o1⟩
structure Ch where
  fr : En
  «to» : En
def Ch.f (x : Ch) : List Value := [.int .i64 x.fr.part, .int .i64 x.fr.port, .int .i64 x.to.part, .int .i64 x.to.port]
def Ch0 : Ch := ⟨En0, En0⟩
def Ch.ok (W : World) (x : Ch) : Prop := rdEn.ok W x.fr ∧ rdEn.ok W x.to
theorem u_Ch : Tryz.prog.underlying 72 = some (.struct (fieldsOf 72)) := by kernel_rfl
noncomputable def rdCh : Rd Tryz.prog 72 Ch where
  sz := 4
  f := Ch.f
  ok := Ch.ok
  len _ := rfl
  keep H hb := ⟨rdEn.keep H.1 hb, rdEn.keep H.2 hb⟩
  trod hl h := by
    rename_i cs _
    match cs, hl with
    | [v0, v1, v2, v3], _ =>
      obtain ⟨_, _, g0⟩ := trod_field u_Ch h 0 70 0 2 (by kernel_rfl) (by kernel_rfl)
      obtain ⟨x0, e0, o0⟩ := rdEn.trod rfl g0
      obtain ⟨_, _, g1⟩ := trod_field u_Ch h 1 70 2 2 (by kernel_rfl) (by kernel_rfl)
      obtain ⟨x1, e1, o1⟩ := rdEn.trod rfl g1
      cases e0
      cases e1
      exact ⟨⟨x0, x1⟩, rfl, o0, o1⟩
structure Wn where
  part : Int
  start : Int
  len : Int
def Wn.f (x : Wn) : List Value := [.int .i64 x.part, .int .i64 x.start, .int .i64 x.len]
def Wn0 : Wn := ⟨0, 0, 0⟩
def Wn.ok (W : World) (x : Wn) : Prop := rdInt.ok W x.part ∧ rdInt.ok W x.start ∧ rdInt.ok W x.len
theorem u_Wn : Tryz.prog.underlying 85 = some (.struct (fieldsOf 85)) := by kernel_rfl
noncomputable def rdWn : Rd Tryz.prog 85 Wn where
  sz := 3
  f := Wn.f
  ok := Wn.ok
  len _ := rfl
  keep H hb := ⟨rdInt.keep H.1 hb, rdInt.keep H.2.1 hb, rdInt.keep H.2.2 hb⟩
  trod hl h := by
    rename_i cs _
    match cs, hl with
    | [v0, v1, v2], _ =>
      obtain ⟨_, _, g0⟩ := trod_field u_Wn h 0 3 0 1 (by kernel_rfl) (by kernel_rfl)
      obtain ⟨x0, e0, o0⟩ := rdInt.trod rfl g0
      obtain ⟨_, _, g1⟩ := trod_field u_Wn h 1 3 1 1 (by kernel_rfl) (by kernel_rfl)
      obtain ⟨x1, e1, o1⟩ := rdInt.trod rfl g1
      obtain ⟨_, _, g2⟩ := trod_field u_Wn h 2 3 2 1 (by kernel_rfl) (by kernel_rfl)
      obtain ⟨x2, e2, o2⟩ := rdInt.trod rfl g2
      cases e0
      cases e1
      cases e2
      exact ⟨⟨x0, x1, x2⟩, rfl, o0, o1, o2⟩
noncomputable def rdWns : Rd Tryz.prog 56 (Hd Wn) := rdSl 56 rdWn (by kernel_rfl) (by kernel_rfl) (by decide)
structure Md where
  frame : Int
  wins : Hd Wn
def Md.f (x : Md) : List Value := [.int .i64 x.frame, x.wins.v]
def Md0 : Md := ⟨0, ⟨none, 0, []⟩⟩
def Md.ok (W : World) (x : Md) : Prop := rdInt.ok W x.frame ∧ rdWns.ok W x.wins
theorem u_Md : Tryz.prog.underlying 58 = some (.struct (fieldsOf 58)) := by kernel_rfl
noncomputable def rdMd : Rd Tryz.prog 58 Md where
  sz := 2
  f := Md.f
  ok := Md.ok
  len _ := rfl
  keep H hb := ⟨rdInt.keep H.1 hb, rdWns.keep H.2 hb⟩
  trod hl h := by
    rename_i cs _
    match cs, hl with
    | [v0, v1], _ =>
      obtain ⟨_, _, g0⟩ := trod_field u_Md h 0 3 0 1 (by kernel_rfl) (by kernel_rfl)
      obtain ⟨x0, e0, o0⟩ := rdInt.trod rfl g0
      obtain ⟨_, _, g1⟩ := trod_field u_Md h 1 56 1 1 (by kernel_rfl) (by kernel_rfl)
      obtain ⟨x1, e1, o1⟩ := rdWns.trod rfl g1
      cases e0
      cases e1
      exact ⟨⟨x0, x1⟩, rfl, o0, o1⟩
structure Lv where
  freq : Int
  power : Int
def Lv.f (x : Lv) : List Value := [.int .i64 x.freq, .int .i64 x.power]
def Lv0 : Lv := ⟨0, 0⟩
def Lv.ok (W : World) (x : Lv) : Prop := rdInt.ok W x.freq ∧ rdInt.ok W x.power
theorem u_Lv : Tryz.prog.underlying 87 = some (.struct (fieldsOf 87)) := by kernel_rfl
noncomputable def rdLv : Rd Tryz.prog 87 Lv where
  sz := 2
  f := Lv.f
  ok := Lv.ok
  len _ := rfl
  keep H hb := ⟨rdInt.keep H.1 hb, rdInt.keep H.2 hb⟩
  trod hl h := by
    rename_i cs _
    match cs, hl with
    | [v0, v1], _ =>
      obtain ⟨_, _, g0⟩ := trod_field u_Lv h 0 3 0 1 (by kernel_rfl) (by kernel_rfl)
      obtain ⟨x0, e0, o0⟩ := rdInt.trod rfl g0
      obtain ⟨_, _, g1⟩ := trod_field u_Lv h 1 3 1 1 (by kernel_rfl) (by kernel_rfl)
      obtain ⟨x1, e1, o1⟩ := rdInt.trod rfl g1
      cases e0
      cases e1
      exact ⟨⟨x0, x1⟩, rfl, o0, o1⟩
structure Np where
  power : Int
  enter : Int
  wake : Int
def Np.f (x : Np) : List Value := [.int .i64 x.power, .int .i64 x.enter, .int .i64 x.wake]
def Np0 : Np := ⟨0, 0, 0⟩
def Np.ok (W : World) (x : Np) : Prop := rdInt.ok W x.power ∧ rdInt.ok W x.enter ∧ rdInt.ok W x.wake
theorem u_Np : Tryz.prog.underlying 89 = some (.struct (fieldsOf 89)) := by kernel_rfl
noncomputable def rdNp : Rd Tryz.prog 89 Np where
  sz := 3
  f := Np.f
  ok := Np.ok
  len _ := rfl
  keep H hb := ⟨rdInt.keep H.1 hb, rdInt.keep H.2.1 hb, rdInt.keep H.2.2 hb⟩
  trod hl h := by
    rename_i cs _
    match cs, hl with
    | [v0, v1, v2], _ =>
      obtain ⟨_, _, g0⟩ := trod_field u_Np h 0 3 0 1 (by kernel_rfl) (by kernel_rfl)
      obtain ⟨x0, e0, o0⟩ := rdInt.trod rfl g0
      obtain ⟨_, _, g1⟩ := trod_field u_Np h 1 3 1 1 (by kernel_rfl) (by kernel_rfl)
      obtain ⟨x1, e1, o1⟩ := rdInt.trod rfl g1
      obtain ⟨_, _, g2⟩ := trod_field u_Np h 2 3 2 1 (by kernel_rfl) (by kernel_rfl)
      obtain ⟨x2, e2, o2⟩ := rdInt.trod rfl g2
      cases e0
      cases e1
      cases e2
      exact ⟨⟨x0, x1, x2⟩, rfl, o0, o1, o2⟩
noncomputable def rdLvs : Rd Tryz.prog 25 (Hd Lv) := rdSl 25 rdLv (by kernel_rfl) (by kernel_rfl) (by decide)
noncomputable def rdNps : Rd Tryz.prog 26 (Hd Np) := rdSl 26 rdNp (by kernel_rfl) (by kernel_rfl) (by decide)
structure Pw where
  levels : Hd Lv
  naps : Hd Np
  sw : Int
  idle : Int
  change : Int
  quant : Int
  slow : Int
  ppm : Int
def Pw.f (x : Pw) : List Value := [x.levels.v, x.naps.v, .int .i64 x.sw, .int .i64 x.idle, .int .i64 x.change, .int .i64 x.quant, .int .i64 x.slow, .int .i64 x.ppm]
def Pw0 : Pw := ⟨⟨none, 0, []⟩, ⟨none, 0, []⟩, 0, 0, 0, 0, 0, 0⟩
def Pw.ok (W : World) (x : Pw) : Prop := rdLvs.ok W x.levels ∧ rdNps.ok W x.naps ∧ rdInt.ok W x.sw ∧ rdInt.ok W x.idle ∧ rdInt.ok W x.change ∧ rdInt.ok W x.quant ∧ rdInt.ok W x.slow ∧ rdInt.ok W x.ppm
theorem u_Pw : Tryz.prog.underlying 28 = some (.struct (fieldsOf 28)) := by kernel_rfl
noncomputable def rdPw : Rd Tryz.prog 28 Pw where
  sz := 8
  f := Pw.f
  ok := Pw.ok
  len _ := rfl
  keep H hb := ⟨rdLvs.keep H.1 hb, rdNps.keep H.2.1 hb, rdInt.keep H.2.2.1 hb, rdInt.keep H.2.2.2.1 hb, rdInt.keep H.2.2.2.2.1 hb, rdInt.keep H.2.2.2.2.2.1 hb, rdInt.keep H.2.2.2.2.2.2.1 hb, rdInt.keep H.2.2.2.2.2.2.2 hb⟩
  trod hl h := by
    rename_i cs _
    match cs, hl with
    | [v0, v1, v2, v3, v4, v5, v6, v7], _ =>
      obtain ⟨_, _, g0⟩ := trod_field u_Pw h 0 25 0 1 (by kernel_rfl) (by kernel_rfl)
      obtain ⟨x0, e0, o0⟩ := rdLvs.trod rfl g0
      obtain ⟨_, _, g1⟩ := trod_field u_Pw h 1 26 1 1 (by kernel_rfl) (by kernel_rfl)
      obtain ⟨x1, e1, o1⟩ := rdNps.trod rfl g1
      obtain ⟨_, _, g2⟩ := trod_field u_Pw h 2 3 2 1 (by kernel_rfl) (by kernel_rfl)
      obtain ⟨x2, e2, o2⟩ := rdInt.trod rfl g2
      obtain ⟨_, _, g3⟩ := trod_field u_Pw h 3 3 3 1 (by kernel_rfl) (by kernel_rfl)
      obtain ⟨x3, e3, o3⟩ := rdInt.trod rfl g3
      obtain ⟨_, _, g4⟩ := trod_field u_Pw h 4 3 4 1 (by kernel_rfl) (by kernel_rfl)
      obtain ⟨x4, e4, o4⟩ := rdInt.trod rfl g4
      obtain ⟨_, _, g5⟩ := trod_field u_Pw h 5 3 5 1 (by kernel_rfl) (by kernel_rfl)
      obtain ⟨x5, e5, o5⟩ := rdInt.trod rfl g5
      obtain ⟨_, _, g6⟩ := trod_field u_Pw h 6 3 6 1 (by kernel_rfl) (by kernel_rfl)
      obtain ⟨x6, e6, o6⟩ := rdInt.trod rfl g6
      obtain ⟨_, _, g7⟩ := trod_field u_Pw h 7 3 7 1 (by kernel_rfl) (by kernel_rfl)
      obtain ⟨x7, e7, o7⟩ := rdInt.trod rfl g7
      cases e0
      cases e1
      cases e2
      cases e3
      cases e4
      cases e5
      cases e6
      cases e7
      exact ⟨⟨x0, x1, x2, x3, x4, x5, x6, x7⟩, rfl, o0, o1, o2, o3, o4, o5, o6, o7⟩
structure Sd where
  down : Hd Int
  up : Hd Int
def Sd.f (x : Sd) : List Value := [x.down.v, x.up.v]
def Sd0 : Sd := ⟨⟨none, 0, []⟩, ⟨none, 0, []⟩⟩
def Sd.ok (W : World) (x : Sd) : Prop := rdInts.ok W x.down ∧ rdInts.ok W x.up
theorem u_Sd : Tryz.prog.underlying 31 = some (.struct (fieldsOf 31)) := by kernel_rfl
noncomputable def rdSd : Rd Tryz.prog 31 Sd where
  sz := 2
  f := Sd.f
  ok := Sd.ok
  len _ := rfl
  keep H hb := ⟨rdInts.keep H.1 hb, rdInts.keep H.2 hb⟩
  trod hl h := by
    rename_i cs _
    match cs, hl with
    | [v0, v1], _ =>
      obtain ⟨_, _, g0⟩ := trod_field u_Sd h 0 29 0 1 (by kernel_rfl) (by kernel_rfl)
      obtain ⟨x0, e0, o0⟩ := rdInts.trod rfl g0
      obtain ⟨_, _, g1⟩ := trod_field u_Sd h 1 29 1 1 (by kernel_rfl) (by kernel_rfl)
      obtain ⟨x1, e1, o1⟩ := rdInts.trod rfl g1
      cases e0
      cases e1
      exact ⟨⟨x0, x1⟩, rfl, o0, o1⟩
noncomputable def rdPts : Rd Tryz.prog 22 (Hd Pt) := rdSl 22 rdPt (by kernel_rfl) (by kernel_rfl) (by decide)
noncomputable def rdChs : Rd Tryz.prog 23 (Hd Ch) := rdSl 23 rdCh (by kernel_rfl) (by kernel_rfl) (by decide)
noncomputable def rdMds : Rd Tryz.prog 24 (Hd Md) := rdSl 24 rdMd (by kernel_rfl) (by kernel_rfl) (by decide)
structure Cf where
  parts : Hd Pt
  chans : Hd Ch
  modes : Hd Md
  pw : Pw
  shed : Sd
def Cf.f (x : Cf) : List Value := [x.parts.v, x.chans.v, x.modes.v, x.pw.levels.v, x.pw.naps.v, .int .i64 x.pw.sw, .int .i64 x.pw.idle, .int .i64 x.pw.change, .int .i64 x.pw.quant, .int .i64 x.pw.slow, .int .i64 x.pw.ppm, x.shed.down.v, x.shed.up.v]
def Cf0 : Cf := ⟨⟨none, 0, []⟩, ⟨none, 0, []⟩, ⟨none, 0, []⟩, Pw0, Sd0⟩
def Cf.ok (W : World) (x : Cf) : Prop := rdPts.ok W x.parts ∧ rdChs.ok W x.chans ∧ rdMds.ok W x.modes ∧ rdPw.ok W x.pw ∧ rdSd.ok W x.shed
theorem u_Cf : Tryz.prog.underlying 33 = some (.struct (fieldsOf 33)) := by kernel_rfl
noncomputable def rdCf : Rd Tryz.prog 33 Cf where
  sz := 13
  f := Cf.f
  ok := Cf.ok
  len _ := rfl
  keep H hb := ⟨rdPts.keep H.1 hb, rdChs.keep H.2.1 hb, rdMds.keep H.2.2.1 hb, rdPw.keep H.2.2.2.1 hb, rdSd.keep H.2.2.2.2 hb⟩
  trod hl h := by
    rename_i cs _
    match cs, hl with
    | [v0, v1, v2, v3, v4, v5, v6, v7, v8, v9, v10, v11, v12], _ =>
      obtain ⟨_, _, g0⟩ := trod_field u_Cf h 0 22 0 1 (by kernel_rfl) (by kernel_rfl)
      obtain ⟨x0, e0, o0⟩ := rdPts.trod rfl g0
      obtain ⟨_, _, g1⟩ := trod_field u_Cf h 1 23 1 1 (by kernel_rfl) (by kernel_rfl)
      obtain ⟨x1, e1, o1⟩ := rdChs.trod rfl g1
      obtain ⟨_, _, g2⟩ := trod_field u_Cf h 2 24 2 1 (by kernel_rfl) (by kernel_rfl)
      obtain ⟨x2, e2, o2⟩ := rdMds.trod rfl g2
      obtain ⟨_, _, g3⟩ := trod_field u_Cf h 3 28 3 8 (by kernel_rfl) (by kernel_rfl)
      obtain ⟨x3, e3, o3⟩ := rdPw.trod rfl g3
      obtain ⟨_, _, g4⟩ := trod_field u_Cf h 4 31 11 2 (by kernel_rfl) (by kernel_rfl)
      obtain ⟨x4, e4, o4⟩ := rdSd.trod rfl g4
      cases e0
      cases e1
      cases e2
      cases e3
      cases e4
      exact ⟨⟨x0, x1, x2, x3, x4⟩, rfl, o0, o1, o2, o3, o4⟩
end Go.Proofs.YtahjnonkhbpnpaaGreat
/- What writes one element of a list. -/
namespace Go.Proofs.YtahjnonkhbpnpaaGreat
open Go.RowKit
/-- Q lasts while a writer writes. -/
def Stq (Q : (Nat → Prop) → World → Prop) : Prop := ∀ T T' W W', Q T W → Fr T W W' → Grw T T' W W' → Q T' W'
/-- called with these arguments, F writes enc, and notes bad. -/
def OneW (wa : World) (g : Nat) (Q : (Nat → Prop) → World → Prop) (F : FuncId) (args : Array Value) (N : Nat) (enc : List UInt8) (bad : Bool) : Prop :=
  ∀ (T : Nat → Prop) (W : World) (l : List UInt8) (lg : Bool), Q T W → WrC W wa.heap.size g T l lg → Below wa.heap.size wa W → l.length ≤ N → Calls Tryz.prog F args W (Wro W wa.heap.size g T (l ++ enc) (lg || bad))
theorem WrC.setLong {W : World} {B0 g : Nat} {T : Nat → Prop} {l : List UInt8} {lg : Bool} (h : WrC W B0 g T l lg) (lg2 : Bool) : WrC (W.setCell ⟨g, 1, none⟩ (.bool lg2)) B0 g T l lg2 := by
  obtain ⟨⟨v, h1, h2, h3⟩, h4, h5, h6⟩ := h
  refine ⟨⟨v, by simpa using h1.set_ 1 (.bool lg2), own_fr h2 ((Fr.refl (· = g) W).setCell (p := ⟨g, 1, none⟩) (fun _ => rfl) _) (fun b hb _ h => by omega), h3⟩, h4, h5, fun b hb => by simpa using h6 b hb⟩
theorem flat_le {α : Type} (enc : α → List UInt8) {M : Nat} : ∀ (l : List α), (∀ x ∈ l, (enc x).length ≤ M) → ∀ k, l.length ≤ k → (l.flatMap enc).length ≤ k * M
  | [], _, k, _ => by simp
  | x :: l, h, k, hk => by
    rw [List.length_cons] at hk
    obtain ⟨k, rfl⟩ : ∃ k', k = k' + 1 := ⟨k - 1, by omega⟩
    have h1 := h x (by simp)
    have h2 := flat_le enc l (fun y hy => h y (by simp [hy])) k (by omega)
    rw [List.flatMap_cons, List.length_append, Nat.add_mul, Nat.one_mul]
    omega
theorem at0_atD (l : List Int) (k : Nat) : at0 l k = atD 0 l k := rfl
end Go.Proofs.YtahjnonkhbpnpaaGreat
/- A configuration's bytes: the plain law. -/
namespace Go.Proofs.YtahjnonkhbpnpaaGreat
open Go.RowKit
def lst {α : Type} (enc : α → List UInt8) (l : List α) : List UInt8 := vint l.length ++ l.flatMap enc
def badL {α : Type} (bad : α → Bool) (l : List α) : Bool := decide (64 < l.length) || l.any bad
def noB {α : Type} (_ : α) : Bool := false
def encRg (x : Rg) : List UInt8 := intsB [x.base, x.size] ++ vbool x.wr
def encPc (x : Pc) : List UInt8 := intsB [x.prio, x.per, x.cost]
def encPo (x : Po) : List UInt8 := vbool x.q ++ vbool x.inn ++ intsB [x.size, x.depth]
def encSm (x : Sm) : List UInt8 := intsB [x.first, x.most]
def encPl (x : Pl) : List UInt8 := intsB [x.size, x.depth]
def encWn (x : Wn) : List UInt8 := intsB [x.part, x.start, x.len]
def encLv (x : Lv) : List UInt8 := intsB [x.freq, x.power]
def encNp (x : Np) : List UInt8 := intsB [x.power, x.enter, x.wake]
def encCh (x : Ch) : List UInt8 := intsB [x.fr.part, x.fr.port, x.to.part, x.to.port]
def encPt (x : Pt) : List UInt8 := lst encRg x.regs.l ++ lst encPc x.procs.l ++ lst encPo x.ports.l ++ lst encSm x.sems.l ++ vint x.flags ++ lst encPl x.pools.l ++ lst vint x.slates.l ++ intsB [x.cap, x.bud, x.lad] ++ lst vint x.acts.l
def badPt (x : Pt) : Bool := badL noB x.regs.l || badL noB x.procs.l || badL noB x.ports.l || badL noB x.sems.l || badL noB x.pools.l || badL noB x.slates.l || badL noB x.acts.l
def encMd (x : Md) : List UInt8 := vint x.frame ++ lst encWn x.wins.l
def badMd (x : Md) : Bool := badL noB x.wins.l
def encPw (x : Pw) : List UInt8 := lst encLv x.levels.l ++ lst encNp x.naps.l ++ intsB [x.sw, x.idle, x.change, x.quant, x.slow, x.ppm]
def badPw (x : Pw) : Bool := badL noB x.levels.l || badL noB x.naps.l
def encCf (x : Cf) : List UInt8 := lst encPt x.parts.l ++ lst encCh x.chans.l ++ lst encMd x.modes.l ++ encPw x.pw ++ lst vint x.shed.down.l ++ lst vint x.shed.up.l
def badCf (x : Cf) : Bool := badL badPt x.parts.l || badL noB x.chans.l || badL badMd x.modes.l || badPw x.pw || badL noB x.shed.down.l || badL noB x.shed.up.l
theorem lst_len {α : Type} (enc : α → List UInt8) {M : Nat} (l : List α) (h : ∀ x ∈ l, (enc x).length ≤ M) (hn : l.length ≤ 100) : (lst enc l).length ≤ 11 + 100 * M := by
  have h1 := vint_len (l.length : Int)
  have h2 := flat_le enc l h 100 hn
  unfold lst
  rw [List.length_append]
  omega
theorem vint_le (x : Int) : (vint x).length ≤ 11 := (vint_len x).2
theorem encRg_len (x : Rg) : (encRg x).length ≤ 23 := by
  have := intsB_len [x.base, x.size]
  unfold encRg vbool
  rw [List.length_append]
  simp at this ⊢
  omega
theorem encPc_len (x : Pc) : (encPc x).length ≤ 33 := intsB_len [x.prio, x.per, x.cost]
theorem encPo_len (x : Po) : (encPo x).length ≤ 24 := by
  have := intsB_len [x.size, x.depth]
  unfold encPo vbool
  rw [List.length_append, List.length_append]
  simp at this ⊢
  omega
theorem encSm_len (x : Sm) : (encSm x).length ≤ 22 := intsB_len [x.first, x.most]
theorem encPl_len (x : Pl) : (encPl x).length ≤ 22 := intsB_len [x.size, x.depth]
theorem encWn_len (x : Wn) : (encWn x).length ≤ 33 := intsB_len [x.part, x.start, x.len]
theorem encLv_len (x : Lv) : (encLv x).length ≤ 22 := intsB_len [x.freq, x.power]
theorem encNp_len (x : Np) : (encNp x).length ≤ 33 := intsB_len [x.power, x.enter, x.wake]
theorem encCh_len (x : Ch) : (encCh x).length ≤ 44 := intsB_len [x.fr.part, x.fr.port, x.to.part, x.to.port]
/-- the writer's box: a block that holds its pointer, and that it does not own. -/
def Cap (g p : Nat) (T : Nat → Prop) (W : World) : Prop := Blk W p 59 #[.pointer (some ⟨g, 0, none⟩)] ∧ ¬ T p
theorem grw_no {T T' : Nat → Prop} {W W' : World} {b : Nat} (h : Grw T T' W W') (hb : b < W.heap.size) (hn : ¬ T b) : ¬ T' b := fun h' => (h b h').1.elim hn (fun h => by omega)
theorem cap_stq (g p : Nat) : Stq (Cap g p) := fun _ _ _ _ ⟨h1, h2⟩ hf hg => ⟨h1.fr hf h2, grw_no hg h1.lt h2⟩
theorem true_stq : Stq (fun _ _ => True) := fun _ _ _ _ _ _ _ => trivial
end Go.Proofs.YtahjnonkhbpnpaaGreat
/- The document's numbers, truths and lists as bytes, of longer rows. -/
namespace Go.Proofs.YtahjnonkhbpnpaaGreat
open Go.RowKit
/-- append(out, b...): b is not empty; out is owned; of longer rows. -/
theorem wpList_appL {ops : Array Oper} {rest : List Oper} {o : Oper} {a : Act} {Q : Exit → Act → World → Prop} (w : World) (hgd : o.guard = none) (s x : Operand)
    (ho : o.op = .call { callee := .builtin .append, args := #[s, x], argTypes := #[36, 36] })
    (base : Nat) (v : Value) (n : Nat) (l1 : List UInt8) (hs : a.eval s = v) (hown : w.ownsRow base 5 1 v n (l1.map bv))
    (A : Option Addr) (m c : Nat) (l2 : List UInt8) (hsrc : SlB w A m c l2) (hm : 0 < m) (hx : a.eval x = .slice A m c) (hn : n + m ≤ 100000000) (hbase : base ≤ w.heap.size)
    (h : ∀ v' w', w'.ownsRow base 5 1 v' (n + m) ((l1 ++ l2).map bv) → Fr (fun k => v.ownBlock = some k) w w' → (v'.ownBlock = v.ownBlock ∨ v'.ownBlock = some w.heap.size) → wpList Tryz.prog ops Q rest (a.put o.dst v') w') :
    wpList Tryz.prog ops Q (o :: rest) a w := by
  obtain ⟨i0, hi0, hz0, hz1, hz2⟩ := info_parts byte_info
  obtain ⟨b, of, rfl, hb, hc⟩ := hsrc.1.at_ hm
  have hl2 := hsrc.2
  refine wpList_append_own_at w hgd s x 36 ho base 5 i0 _ 1 1 Tryz.underlying36 hi0 hz0 hz1 hz2 rfl (by decide) v n _ hs hown ⟨b, of, none⟩ m c (l2.map bv) hx (by simp; omega) (fun j u hu => by rw [add_none]; exact hc j u hu) (bv_cell l2) (by unfold maxLen; omega) (by omega) hbase ?_
  intro v' w' h1 h2 _ h4
  exact h v' w' (by rw [List.map_append]; exact h1) ((Fr.refl _ w).grown h2 (fun k _ hk => hk)) h4
/-- the same as one operation of a region that draws. -/
theorem wp_appL {o : Oper} {a : Act} {K : Act → World → Prop} {Q : Exit → Act → World → Prop} (w : World) (s x : Operand)
    (ho : o.op = .call { callee := .builtin .append, args := #[s, x], argTypes := #[36, 36] })
    (base : Nat) (v : Value) (n : Nat) (l1 : List UInt8) (hs : a.eval s = v) (hown : w.ownsRow base 5 1 v n (l1.map bv))
    (A : Option Addr) (m c : Nat) (l2 : List UInt8) (hsrc : SlB w A m c l2) (hm : 0 < m) (hx : a.eval x = .slice A m c) (hn : n + m ≤ 100000000) (hbase : base ≤ w.heap.size)
    (h : ∀ g cap w', w'.ownsRow base 5 1 (.slice (some ⟨g, 0, none⟩) (n + m) cap) (n + m) ((l1 ++ l2).map bv) → Fr (fun k => v.ownBlock = some k) w w' → (v.ownBlock = some g ∨ g = w.heap.size) → K (a.put o.dst (.slice (some ⟨g, 0, none⟩) (n + m) cap)) w') : o.wp Tryz.prog a w K Q := by
  obtain ⟨i0, hi0, hz0, hz1, hz2⟩ := info_parts byte_info
  obtain ⟨b, of, rfl, hb, hc⟩ := hsrc.1.at_ hm
  have hl2 := hsrc.2
  refine wp_append_lies w s x 36 ho base 5 i0 _ 1 1 Tryz.underlying36 hi0 hz0 hz1 hz2 rfl (by decide) v n _ hs hown ⟨b, of, none⟩ m c (l2.map bv) hx (by simp; omega) (fun j u hu => by rw [add_none]; exact hc j u hu) (bv_cell l2) hm (by unfold maxLen; omega) (by omega) hbase _ rfl ?_
  intro g cap w' h1 h2 h3 _
  exact h g cap w' (by rw [List.map_append]; exact h1) ((Fr.refl _ w).grown h2 (fun k _ hk => hk)) h3
theorem own_lits {w : World} {base : Nat} {e : TypeId} {sz : Nat} {v : Value} {n : Nat} {xs : List Value} (h : w.ownsRow base e sz v n xs) (hn : 0 < n) : ∃ g c, v = .slice (some ⟨g, 0, none⟩) n c ∧ base ≤ g := by
  rcases h.2 with ⟨_, h0⟩ | ⟨g, c, cur, hv, hb, _⟩
  · omega
  · exact ⟨g, c, hv, hb⟩
/-- the same, the bytes by a name of their own. -/
theorem wpList_appM {ops : Array Oper} {rest : List Oper} {o : Oper} {a : Act} {Q : Exit → Act → World → Prop} (w : World) (hgd : o.guard = none) (s x : Operand)
    (ho : o.op = .call { callee := .builtin .append, args := #[s, x], argTypes := #[36, 36] })
    (base : Nat) (v : Value) (l1 : List UInt8) (hs : a.eval s = v) (hown : w.ownsRow base 5 1 v l1.length (l1.map bv))
    (A : Option Addr) (m c : Nat) (l2 : List UInt8) (hsrc : SlB w A m c l2) (hm : 0 < m) (hx : a.eval x = .slice A m c) (hn : l1.length + m ≤ 100000000) (hbase : base ≤ w.heap.size)
    (h : ∀ g cap w' L', Hid (L' = l1 ++ l2) → L'.length ≤ l1.length + m → w'.ownsRow base 5 1 (.slice (some ⟨g, 0, none⟩) L'.length cap) L'.length (L'.map bv) → Fr (fun k => v.ownBlock = some k) w w' → (v.ownBlock = some g ∨ g = w.heap.size) → wpList Tryz.prog ops Q rest (a.put o.dst (.slice (some ⟨g, 0, none⟩) L'.length cap)) w') :
    wpList Tryz.prog ops Q (o :: rest) a w := by
  have hl2 := hsrc.2
  refine wpList_appL w hgd s x ho base v l1.length l1 hs hown A m c l2 hsrc hm hx hn hbase fun v' w' h1 h2 h3 => ?_
  have hz : l1.length + m = (l1 ++ l2).length := by rw [List.length_append]; omega
  rw [hz] at h1
  obtain ⟨g, c', hv, -⟩ := own_lits h1 (by rw [List.length_append]; omega)
  rw [hv] at h1 h3 ⊢
  exact h g c' w' _ rfl (Nat.le_of_eq hz.symm) h1 h2 (h3.elim (fun e => .inl e.symm) (fun e => .inr (Option.some.inj e)))
theorem wp_appM {o : Oper} {a : Act} {K : Act → World → Prop} {Q : Exit → Act → World → Prop} (w : World) (s x : Operand)
    (ho : o.op = .call { callee := .builtin .append, args := #[s, x], argTypes := #[36, 36] })
    (base : Nat) (v : Value) (l1 : List UInt8) (hs : a.eval s = v) (hown : w.ownsRow base 5 1 v l1.length (l1.map bv))
    (A : Option Addr) (m c : Nat) (l2 : List UInt8) (hsrc : SlB w A m c l2) (hm : 0 < m) (hx : a.eval x = .slice A m c) (hn : l1.length + m ≤ 100000000) (hbase : base ≤ w.heap.size)
    (h : ∀ g cap w' L', Hid (L' = l1 ++ l2) → L'.length ≤ l1.length + m → w'.ownsRow base 5 1 (.slice (some ⟨g, 0, none⟩) L'.length cap) L'.length (L'.map bv) → Fr (fun k => v.ownBlock = some k) w w' → (v.ownBlock = some g ∨ g = w.heap.size) → K (a.put o.dst (.slice (some ⟨g, 0, none⟩) L'.length cap)) w') : o.wp Tryz.prog a w K Q := by
  have hl2 := hsrc.2
  refine wp_appL w s x ho base v l1.length l1 hs hown A m c l2 hsrc hm hx hn hbase fun g cap w' h1 h2 h3 => ?_
  have hz : l1.length + m = (l1 ++ l2).length := by rw [List.length_append]; omega
  rw [hz] at h1 ⊢
  exact h g cap w' _ rfl (Nat.le_of_eq hz.symm) h1 h2 h3
theorem vbool_len (b : Bool) : (vbool b).length = 1 := rfl
theorem refBool_any {w : World} (b : Bool) :
    Calls Tryz.prog 81 #[.bool b] w fun e w' => ∃ A c, e = .returned (.slice A 1 c) ∧ SlB w' A 1 c (vbool b) ∧ Below w.heap.size w w' := by
  cases b with
  | true =>
    have hb := Blk.new w 5 #[.int .u8 1]
    go_enter Tryz.func81, Tryz.ntmps81
    go_wp2_with fail
    go_ret
    exact ⟨_, _, rfl, SlB.of_blk hb (vbool true) rfl (by decide), (Below.refl _ _).alloc (Nat.le_refl _) _⟩
  | false =>
    have hb := Blk.new w 5 #[.int .u8 0]
    go_enter Tryz.func81, Tryz.ntmps81
    go_wp2_with fail
    go_ret
    exact ⟨_, _, rfl, SlB.of_blk hb (vbool false) rfl (by decide), (Below.refl _ _).alloc (Nat.le_refl _) _⟩
theorem lst_ints (l : List Int) : lst vint l = vint l.length ++ intsB l := rfl
set_option maxRecDepth 100000 in
theorem refInts_any {w : World} {A : Option Addr} {n c : Nat} {l : List Int} (h : SlI w A n c l) (hn : n ≤ 1000) :
    Calls Tryz.prog 28 #[.slice A n c] w fun e w' => ∃ v, e = .returned v ∧ w'.ownsRow w.heap.size 5 1 v (lst vint l).length ((lst vint l).map bv) ∧ Below w.heap.size w w' := by
  have hln := h.2.1
  have hv := vint_len (n : Int)
  have HV : Hid (lst vint l = vint n ++ intsB l) := by unfold Hid; rw [lst_ints, hln]
  go_enter Tryz.func28, Tryz.ntmps28
  go_wp2_with fail
  refine (refInt_any (n := (n : Int)) (by unfold i64; omega)).mono ?_
  rintro e w2 ⟨v2, rfl, hown2, hb2⟩
  go_wp2_with fail
  go_loopw [3, 4] (fun v i wr => ∃ k : Nat, k ≤ n ∧ i = .int .i64 k ∧ wr.ownsRow w.heap.size 5 1 v (vint n ++ intsB (l.take k)).length ((vint n ++ intsB (l.take k)).map bv) ∧ Below w.heap.size w wr) (fun _ i _ => n - (intOf i).toNat)
  case atStart => exact ⟨0, by omega, rfl, by simpa [intsB] using hown2, hb2⟩
  case round =>
    obtain ⟨k, hk, rfl, hown, hbw⟩ := hrel
    have hzr := hbw.size
    by_cases hlt : k < n
    · obtain ⟨b, o, rfl, hb, hck⟩ := (h.keep hbw).at_ hlt
      have hi := h.rng k
      have hil := vint_len (at0 l k)
      have HT := Lib.hid (intsB_take l (show k < l.length by omega))
      have hll := intsB_len (l.take k)
      rw [List.length_take] at hll
      generalize at0 l k = x at hck hi hil HT
      go_wp2_with fail
      refine (refInt_any hi).mono ?_
      rintro ee w2 ⟨v2, rfl, hown2, hb2⟩
      obtain ⟨A2, c2, rfl, hs2, -⟩ := SlB.of_own hown2
      have hownA := own_below hown hb2
      have hz2 := hb2.size
      have hlen : (vint (n : Int) ++ intsB (l.take k)).length ≤ 900000 := by rw [List.length_append]; omega
      go_wp2_with (at_builtin; refine wpList_appL w2 (by rfl) _ _ (by rfl) w.heap.size _ _ _ (by rfl) hownA A2 _ c2 _ hs2 hil.1 (by rfl) (by omega) (by omega) ?_; intro v' w3 hown3 hf3 _)
      exact ⟨⟨k + 1, by omega, by go_num, by rw [HT.out, ← List.append_assoc, List.length_append]; exact hown3, (hbw.trans (hb2.mono hzr)).trans (hf3.below (fun g hg h => own_ne hown hg h.symm) (by omega))⟩, by simp [intOf]; omega⟩
    · obtain rfl : k = n := by omega
      have HT : Hid (l.take k = l) := List.take_of_length_le (by omega)
      rw [HT.out] at hown
      go_wp2_with fail
      go_ret
      exact ⟨_, rfl, by rw [HV.out]; exact hown, hbw⟩
set_option maxRecDepth 100000 in
/-- numbers, one behind the other. -/
theorem refRow_any {w : World} {A : Option Addr} {n c : Nat} {l : List Int} (h : SlI w A n c l) (hn : n ≤ 1000) :
    Calls Tryz.prog 27 #[.slice A n c] w fun e w' => ∃ v, e = .returned v ∧ w'.ownsRow w.heap.size 5 1 v (intsB l).length ((intsB l).map bv) ∧ Below w.heap.size w w' := by
  have hln := h.2.1
  go_enter Tryz.func27, Tryz.ntmps27
  go_wp2_with fail
  go_loopw [3, 4] (fun v i wr => ∃ k : Nat, k ≤ n ∧ i = .int .i64 k ∧ wr.ownsRow w.heap.size 5 1 v (intsB (l.take k)).length ((intsB (l.take k)).map bv) ∧ Below w.heap.size w wr) (fun _ i _ => n - (intOf i).toNat)
  case atStart => exact ⟨0, by omega, rfl, World.ownsRow_nil _ _ _ _, Below.refl _ _⟩
  case round =>
    obtain ⟨k, hk, rfl, hown, hbw⟩ := hrel
    have hzr := hbw.size
    by_cases hlt : k < n
    · obtain ⟨b, o, rfl, hb, hck⟩ := (h.keep hbw).at_ hlt
      have hi := h.rng k
      have hil := vint_len (at0 l k)
      have HT := Lib.hid (intsB_take l (show k < l.length by omega))
      have hll := intsB_len (l.take k)
      rw [List.length_take] at hll
      generalize at0 l k = x at hck hi hil HT
      go_wp2_with fail
      refine (refInt_any hi).mono ?_
      rintro ee w2 ⟨v2, rfl, hown2, hb2⟩
      obtain ⟨A2, c2, rfl, hs2, -⟩ := SlB.of_own hown2
      have hownA := own_below hown hb2
      have hz2 := hb2.size
      have hlen : (intsB (l.take k)).length ≤ 900000 := by omega
      go_wp2_with (at_builtin; refine wpList_appL w2 (by rfl) _ _ (by rfl) w.heap.size _ _ _ (by rfl) hownA A2 _ c2 _ hs2 hil.1 (by rfl) (by omega) (by omega) ?_; intro v' w3 hown3 hf3 _)
      exact ⟨⟨k + 1, by omega, by go_num, by rw [HT.out, List.length_append]; exact hown3, (hbw.trans (hb2.mono hzr)).trans (hf3.below (fun g hg h => own_ne hown hg h.symm) (by omega))⟩, by simp [intOf]; omega⟩
    · obtain rfl : k = n := by omega
      have HT : Hid (l.take k = l) := List.take_of_length_le (by omega)
      rw [HT.out] at hown
      go_wp2_with fail
      go_ret
      exact ⟨_, rfl, hown, hbw⟩
end Go.Proofs.YtahjnonkhbpnpaaGreat
/- What writes one element of each of conf's lists. Printed by wip/gen_cwelem.py. -/
namespace Go.Proofs.YtahjnonkhbpnpaaGreat
open Go.RowKit
set_option maxRecDepth 100000 in
theorem one_Rg {wa : World} {g pb : Nat} (x : Rg) (hx : x.ok wa) : OneW wa g (Cap g pb) 58 #[.agg #[.int .i64 x.base, .int .i64 x.size, .bool x.wr], .pointer (some ⟨pb, 0, none⟩)] 60000000 (encRg x) false := by
  intro T W l lg hq hw hB hl
  obtain ⟨hp, hpT⟩ := hq
  have hbl := (Below.refl W.heap.size W).alloc (Nat.le_refl _) (.cells #[.int .i64 x.base, .int .i64 x.size, .bool x.wr] 124)
  have kx0 := Blk.new W 124 #[.int .i64 x.base, .int .i64 x.size, .bool x.wr]
  have kp0 := hp.keep hbl
  have hw0 := hw.keep hbl
  have hB0 := hB.trans (hbl.mono hB.size)
  have nx0 : ¬ T W.heap.size := fun h => by have := hw.bnd _ h; omega
  have np0 := hpT
  have F0 : Fr T W (W.alloc (.cells #[.int .i64 x.base, .int .i64 x.size, .bool x.wr] 124)) := Fr.of_below hbl T
  have G0 : Grw T T W (W.alloc (.cells #[.int .i64 x.base, .int .i64 x.size, .bool x.wr] 124)) := fun b hb => ⟨.inl hb, Nat.lt_of_lt_of_le (hw.bnd b hb) hbl.size⟩
  have i_x_base : i64 x.base := hx.1
  have i_x_size : i64 x.size := hx.2.1
  go_enter Tryz.func58, Tryz.ntmps58
  go_upto_region 1 with fail
  generalize W.alloc (.cells #[.int .i64 x.base, .int .i64 x.size, .bool x.wr] 124) = W0 at kx0 kp0 hw0 hB0 F0 G0 ⊢
  generalize hbx : W.heap.size = bx at kx0 nx0 ⊢
  clear hbx hbl hp hw hB
  have p0 : W0.cell? ⟨pb, 0, none⟩ = some (.pointer (some ⟨g, 0, none⟩)) := kp0.cell 0
  have lp0 := kp0.lt
  have lx0 := kx0.lt
  have lg0 := hw0.lt
  have c0 : W0.cell? ⟨bx, 0, none⟩ = some (.int .i64 x.base) := kx0.cell 0
  have c1 : W0.cell? ⟨bx, 1, none⟩ = some (.int .i64 x.size) := kx0.cell 1
  have hbl0 := (Below.refl W0.heap.size W0).alloc (Nat.le_refl _) (.cells #[.int .i64 x.base, .int .i64 x.size] 3)
  have hsl0 := SlI.of_blk (Blk.new W0 3 #[.int .i64 x.base, .int .i64 x.size]) [x.base, x.size] rfl (show 2 ≤ 1000000 by omega) (fun z hz => by
    simp only [List.mem_cons, List.mem_nil_iff, or_false] at hz
    rcases hz with rfl | rfl <;> assumption)
  go_wp2_with fail
  refine (intsC_any (hw0.keep hbl0) (Nat.le_trans hB0.size hbl0.size) (by (try simp only [List.length_append]); omega) hsl0 (show 2 ≤ 1000 by omega) (fun b o _ e h => by cases e; have := hw0.bnd _ h; omega)).mono ?_
  rintro e W1 ⟨rfl, T1, hw1, hf1, hg1⟩
  clear hsl0
  have il0 : (intsB [x.base, x.size]).length ≤ 22 := intsB_len [x.base, x.size]
  replace hf1 : Fr T W0 W1 := (Fr.of_below hbl0 T).trans hf1
  replace hg1 : Grw T T1 W0 W1 := hg1.alloc_left hbl0.size
  have kp1 := kp0.fr hf1 np0
  have kx1 := kx0.fr hf1 nx0
  have np1 := grw_no hg1 lp0 np0
  have nx1 := grw_no hg1 lx0 nx0
  have hB1 := hB0.trans (hf1.below (fun b hb h => by have := hw0.lo b h; omega) hB0.size)
  have F1 : Fr T W W1 := F0.grw G0 hf1
  have G1 : Grw T T1 W W1 := G0.trans F0.size hg1
  clear p0 lp0 lx0 lg0 hf1 hg1 kp0 kx0 np0 nx0 F0 G0 hw0 c0 c1
  have p0 : W1.cell? ⟨pb, 0, none⟩ = some (.pointer (some ⟨g, 0, none⟩)) := kp1.cell 0
  have lp1 := kp1.lt
  have lx1 := kx1.lt
  have lg1 := hw1.lt
  have c2 : W1.cell? ⟨bx, 2, none⟩ = some (.bool x.wr) := kx1.cell 2
  go_wp2_with fail
  refine wp_region_fen (fun _ => False) [(5, 2)] (by kernel_rfl) (by kernel_rfl) ?_
  simp only [wpSegsF, List.take, List.drop]
  repeat (go_big_quiet_step (fail))
  refine wpQuiet_nil (wpHeadF_bar rfl (fun K' hK' => ?_))
  go_wp2_with fail
  refine (writeBoolC_any (hw1.keep (Below.drew (Below.refl _ _))) hB1.size (by (try simp only [List.length_append]); omega) x.wr).mono ?_
  rintro e W2 ⟨rfl, T2, hw2, hf2, hg2⟩
  replace hf2 : Fr T1 W1 W2 := (Fr.of_below (Below.drew (Below.refl _ W1)) T1).trans hf2
  refine hK' _ _ (fun _ => False) rfl ?_
  clear hK' K'
  try simp only [wpSegsF]
  repeat (go_big_quiet_step (fail))
  refine wpQuiet_nil ?_
  have il1 : (vbool x.wr).length ≤ 1 := Nat.le_refl _
  have kp2 := kp1.fr hf2 np1
  have kx2 := kx1.fr hf2 nx1
  have np2 := grw_no hg2 lp1 np1
  have nx2 := grw_no hg2 lx1 nx1
  have hB2 := hB1.trans (hf2.below (fun b hb h => by have := hw1.lo b h; omega) hB1.size)
  have F2 : Fr T W W2 := F1.grw G1 hf2
  have G2 : Grw T T2 W W2 := G1.trans F1.size hg2
  clear p0 lp1 lx1 lg1 hf2 hg2 kp1 kx1 np1 nx1 F1 G1 hw1 c2
  go_wp2_with fail
  go_end0
  refine ⟨rfl, T2, ?_, F2, G2⟩
  rw [Bool.or_false]
  unfold encRg
  try simp only [← List.append_assoc]
  exact hw2
set_option maxRecDepth 100000 in
theorem one_Pc {wa : World} {g pb : Nat} (x : Pc) (hx : x.ok wa) : OneW wa g (Cap g pb) 61 #[.agg #[.int .i64 x.prio, .int .i64 x.per, .int .i64 x.cost], .pointer (some ⟨pb, 0, none⟩)] 60000000 (encPc x) false := by
  intro T W l lg hq hw hB hl
  obtain ⟨hp, hpT⟩ := hq
  have hbl := (Below.refl W.heap.size W).alloc (Nat.le_refl _) (.cells #[.int .i64 x.prio, .int .i64 x.per, .int .i64 x.cost] 129)
  have kx0 := Blk.new W 129 #[.int .i64 x.prio, .int .i64 x.per, .int .i64 x.cost]
  have kp0 := hp.keep hbl
  have hw0 := hw.keep hbl
  have hB0 := hB.trans (hbl.mono hB.size)
  have nx0 : ¬ T W.heap.size := fun h => by have := hw.bnd _ h; omega
  have np0 := hpT
  have F0 : Fr T W (W.alloc (.cells #[.int .i64 x.prio, .int .i64 x.per, .int .i64 x.cost] 129)) := Fr.of_below hbl T
  have G0 : Grw T T W (W.alloc (.cells #[.int .i64 x.prio, .int .i64 x.per, .int .i64 x.cost] 129)) := fun b hb => ⟨.inl hb, Nat.lt_of_lt_of_le (hw.bnd b hb) hbl.size⟩
  have i_x_prio : i64 x.prio := hx.1
  have i_x_per : i64 x.per := hx.2.1
  have i_x_cost : i64 x.cost := hx.2.2
  go_enter Tryz.func61, Tryz.ntmps61
  go_upto_region 1 with fail
  generalize W.alloc (.cells #[.int .i64 x.prio, .int .i64 x.per, .int .i64 x.cost] 129) = W0 at kx0 kp0 hw0 hB0 F0 G0 ⊢
  generalize hbx : W.heap.size = bx at kx0 nx0 ⊢
  clear hbx hbl hp hw hB
  have p0 : W0.cell? ⟨pb, 0, none⟩ = some (.pointer (some ⟨g, 0, none⟩)) := kp0.cell 0
  have lp0 := kp0.lt
  have lx0 := kx0.lt
  have lg0 := hw0.lt
  have c0 : W0.cell? ⟨bx, 0, none⟩ = some (.int .i64 x.prio) := kx0.cell 0
  have c1 : W0.cell? ⟨bx, 1, none⟩ = some (.int .i64 x.per) := kx0.cell 1
  have c2 : W0.cell? ⟨bx, 2, none⟩ = some (.int .i64 x.cost) := kx0.cell 2
  have hbl0 := (Below.refl W0.heap.size W0).alloc (Nat.le_refl _) (.cells #[.int .i64 x.prio, .int .i64 x.per, .int .i64 x.cost] 3)
  have hsl0 := SlI.of_blk (Blk.new W0 3 #[.int .i64 x.prio, .int .i64 x.per, .int .i64 x.cost]) [x.prio, x.per, x.cost] rfl (show 3 ≤ 1000000 by omega) (fun z hz => by
    simp only [List.mem_cons, List.mem_nil_iff, or_false] at hz
    rcases hz with rfl | rfl | rfl <;> assumption)
  go_wp2_with fail
  refine (intsC_any (hw0.keep hbl0) (Nat.le_trans hB0.size hbl0.size) (by (try simp only [List.length_append]); omega) hsl0 (show 3 ≤ 1000 by omega) (fun b o _ e h => by cases e; have := hw0.bnd _ h; omega)).mono ?_
  rintro e W1 ⟨rfl, T1, hw1, hf1, hg1⟩
  clear hsl0
  have il0 : (intsB [x.prio, x.per, x.cost]).length ≤ 33 := intsB_len [x.prio, x.per, x.cost]
  replace hf1 : Fr T W0 W1 := (Fr.of_below hbl0 T).trans hf1
  replace hg1 : Grw T T1 W0 W1 := hg1.alloc_left hbl0.size
  have kp1 := kp0.fr hf1 np0
  have kx1 := kx0.fr hf1 nx0
  have np1 := grw_no hg1 lp0 np0
  have nx1 := grw_no hg1 lx0 nx0
  have hB1 := hB0.trans (hf1.below (fun b hb h => by have := hw0.lo b h; omega) hB0.size)
  have F1 : Fr T W W1 := F0.grw G0 hf1
  have G1 : Grw T T1 W W1 := G0.trans F0.size hg1
  clear p0 lp0 lx0 lg0 hf1 hg1 kp0 kx0 np0 nx0 F0 G0 hw0 c0 c1 c2
  go_wp2_with fail
  go_end0
  refine ⟨rfl, T1, ?_, F1, G1⟩
  rw [Bool.or_false]
  unfold encPc
  try simp only [← List.append_assoc]
  exact hw1
set_option maxRecDepth 100000 in
theorem one_Po {wa : World} {g pb : Nat} (x : Po) (hx : x.ok wa) : OneW wa g (Cap g pb) 63 #[.agg #[.bool x.q, .bool x.inn, .int .i64 x.size, .int .i64 x.depth], .pointer (some ⟨pb, 0, none⟩)] 60000000 (encPo x) false := by
  intro T W l lg hq hw hB hl
  obtain ⟨hp, hpT⟩ := hq
  have hbl := (Below.refl W.heap.size W).alloc (Nat.le_refl _) (.cells #[.bool x.q, .bool x.inn, .int .i64 x.size, .int .i64 x.depth] 133)
  have kx0 := Blk.new W 133 #[.bool x.q, .bool x.inn, .int .i64 x.size, .int .i64 x.depth]
  have kp0 := hp.keep hbl
  have hw0 := hw.keep hbl
  have hB0 := hB.trans (hbl.mono hB.size)
  have nx0 : ¬ T W.heap.size := fun h => by have := hw.bnd _ h; omega
  have np0 := hpT
  have F0 : Fr T W (W.alloc (.cells #[.bool x.q, .bool x.inn, .int .i64 x.size, .int .i64 x.depth] 133)) := Fr.of_below hbl T
  have G0 : Grw T T W (W.alloc (.cells #[.bool x.q, .bool x.inn, .int .i64 x.size, .int .i64 x.depth] 133)) := fun b hb => ⟨.inl hb, Nat.lt_of_lt_of_le (hw.bnd b hb) hbl.size⟩
  have i_x_size : i64 x.size := hx.2.2.1
  have i_x_depth : i64 x.depth := hx.2.2.2
  go_enter Tryz.func63, Tryz.ntmps63
  go_upto_region 1 with fail
  generalize W.alloc (.cells #[.bool x.q, .bool x.inn, .int .i64 x.size, .int .i64 x.depth] 133) = W0 at kx0 kp0 hw0 hB0 F0 G0 ⊢
  generalize hbx : W.heap.size = bx at kx0 nx0 ⊢
  clear hbx hbl hp hw hB
  have p0 : W0.cell? ⟨pb, 0, none⟩ = some (.pointer (some ⟨g, 0, none⟩)) := kp0.cell 0
  have lp0 := kp0.lt
  have lx0 := kx0.lt
  have lg0 := hw0.lt
  have c0 : W0.cell? ⟨bx, 0, none⟩ = some (.bool x.q) := kx0.cell 0
  go_wp2_with fail
  refine wp_region_fen (fun _ => False) [(5, 2)] (by kernel_rfl) (by kernel_rfl) ?_
  simp only [wpSegsF, List.take, List.drop]
  repeat (go_big_quiet_step (fail))
  refine wpQuiet_nil (wpHeadF_bar rfl (fun K' hK' => ?_))
  go_wp2_with fail
  refine (writeBoolC_any (hw0.keep (Below.drew (Below.refl _ _))) hB0.size (by (try simp only [List.length_append]); omega) x.q).mono ?_
  rintro e W1 ⟨rfl, T1, hw1, hf1, hg1⟩
  replace hf1 : Fr T W0 W1 := (Fr.of_below (Below.drew (Below.refl _ W0)) T).trans hf1
  refine hK' _ _ (fun _ => False) rfl ?_
  clear hK' K'
  try simp only [wpSegsF]
  repeat (go_big_quiet_step (fail))
  refine wpQuiet_nil ?_
  have il0 : (vbool x.q).length ≤ 1 := Nat.le_refl _
  have kp1 := kp0.fr hf1 np0
  have kx1 := kx0.fr hf1 nx0
  have np1 := grw_no hg1 lp0 np0
  have nx1 := grw_no hg1 lx0 nx0
  have hB1 := hB0.trans (hf1.below (fun b hb h => by have := hw0.lo b h; omega) hB0.size)
  have F1 : Fr T W W1 := F0.grw G0 hf1
  have G1 : Grw T T1 W W1 := G0.trans F0.size hg1
  clear p0 lp0 lx0 lg0 hf1 hg1 kp0 kx0 np0 nx0 F0 G0 hw0 c0
  have p0 : W1.cell? ⟨pb, 0, none⟩ = some (.pointer (some ⟨g, 0, none⟩)) := kp1.cell 0
  have lp1 := kp1.lt
  have lx1 := kx1.lt
  have lg1 := hw1.lt
  have c1 : W1.cell? ⟨bx, 1, none⟩ = some (.bool x.inn) := kx1.cell 1
  go_wp2_with fail
  refine wp_region_fen (fun _ => False) [(5, 2)] (by kernel_rfl) (by kernel_rfl) ?_
  simp only [wpSegsF, List.take, List.drop]
  repeat (go_big_quiet_step (fail))
  refine wpQuiet_nil (wpHeadF_bar rfl (fun K' hK' => ?_))
  go_wp2_with fail
  refine (writeBoolC_any (hw1.keep (Below.drew (Below.refl _ _))) hB1.size (by (try simp only [List.length_append]); omega) x.inn).mono ?_
  rintro e W2 ⟨rfl, T2, hw2, hf2, hg2⟩
  replace hf2 : Fr T1 W1 W2 := (Fr.of_below (Below.drew (Below.refl _ W1)) T1).trans hf2
  refine hK' _ _ (fun _ => False) rfl ?_
  clear hK' K'
  try simp only [wpSegsF]
  repeat (go_big_quiet_step (fail))
  refine wpQuiet_nil ?_
  have il1 : (vbool x.inn).length ≤ 1 := Nat.le_refl _
  have kp2 := kp1.fr hf2 np1
  have kx2 := kx1.fr hf2 nx1
  have np2 := grw_no hg2 lp1 np1
  have nx2 := grw_no hg2 lx1 nx1
  have hB2 := hB1.trans (hf2.below (fun b hb h => by have := hw1.lo b h; omega) hB1.size)
  have F2 : Fr T W W2 := F1.grw G1 hf2
  have G2 : Grw T T2 W W2 := G1.trans F1.size hg2
  clear p0 lp1 lx1 lg1 hf2 hg2 kp1 kx1 np1 nx1 F1 G1 hw1 c1
  have p0 : W2.cell? ⟨pb, 0, none⟩ = some (.pointer (some ⟨g, 0, none⟩)) := kp2.cell 0
  have lp2 := kp2.lt
  have lx2 := kx2.lt
  have lg2 := hw2.lt
  have c2 : W2.cell? ⟨bx, 2, none⟩ = some (.int .i64 x.size) := kx2.cell 2
  have c3 : W2.cell? ⟨bx, 3, none⟩ = some (.int .i64 x.depth) := kx2.cell 3
  have hbl2 := (Below.refl W2.heap.size W2).alloc (Nat.le_refl _) (.cells #[.int .i64 x.size, .int .i64 x.depth] 3)
  have hsl2 := SlI.of_blk (Blk.new W2 3 #[.int .i64 x.size, .int .i64 x.depth]) [x.size, x.depth] rfl (show 2 ≤ 1000000 by omega) (fun z hz => by
    simp only [List.mem_cons, List.mem_nil_iff, or_false] at hz
    rcases hz with rfl | rfl <;> assumption)
  go_wp2_with fail
  refine (intsC_any (hw2.keep hbl2) (Nat.le_trans hB2.size hbl2.size) (by (try simp only [List.length_append]); omega) hsl2 (show 2 ≤ 1000 by omega) (fun b o _ e h => by cases e; have := hw2.bnd _ h; omega)).mono ?_
  rintro e W3 ⟨rfl, T3, hw3, hf3, hg3⟩
  clear hsl2
  have il2 : (intsB [x.size, x.depth]).length ≤ 22 := intsB_len [x.size, x.depth]
  replace hf3 : Fr T2 W2 W3 := (Fr.of_below hbl2 T2).trans hf3
  replace hg3 : Grw T2 T3 W2 W3 := hg3.alloc_left hbl2.size
  have kp3 := kp2.fr hf3 np2
  have kx3 := kx2.fr hf3 nx2
  have np3 := grw_no hg3 lp2 np2
  have nx3 := grw_no hg3 lx2 nx2
  have hB3 := hB2.trans (hf3.below (fun b hb h => by have := hw2.lo b h; omega) hB2.size)
  have F3 : Fr T W W3 := F2.grw G2 hf3
  have G3 : Grw T T3 W W3 := G2.trans F2.size hg3
  clear p0 lp2 lx2 lg2 hf3 hg3 kp2 kx2 np2 nx2 F2 G2 hw2 c2 c3
  go_wp2_with fail
  go_end0
  refine ⟨rfl, T3, ?_, F3, G3⟩
  rw [Bool.or_false]
  unfold encPo
  try simp only [← List.append_assoc]
  exact hw3
set_option maxRecDepth 100000 in
theorem one_Sm {wa : World} {g pb : Nat} (x : Sm) (hx : x.ok wa) : OneW wa g (Cap g pb) 65 #[.agg #[.int .i64 x.first, .int .i64 x.most], .pointer (some ⟨pb, 0, none⟩)] 60000000 (encSm x) false := by
  intro T W l lg hq hw hB hl
  obtain ⟨hp, hpT⟩ := hq
  have hbl := (Below.refl W.heap.size W).alloc (Nat.le_refl _) (.cells #[.int .i64 x.first, .int .i64 x.most] 137)
  have kx0 := Blk.new W 137 #[.int .i64 x.first, .int .i64 x.most]
  have kp0 := hp.keep hbl
  have hw0 := hw.keep hbl
  have hB0 := hB.trans (hbl.mono hB.size)
  have nx0 : ¬ T W.heap.size := fun h => by have := hw.bnd _ h; omega
  have np0 := hpT
  have F0 : Fr T W (W.alloc (.cells #[.int .i64 x.first, .int .i64 x.most] 137)) := Fr.of_below hbl T
  have G0 : Grw T T W (W.alloc (.cells #[.int .i64 x.first, .int .i64 x.most] 137)) := fun b hb => ⟨.inl hb, Nat.lt_of_lt_of_le (hw.bnd b hb) hbl.size⟩
  have i_x_first : i64 x.first := hx.1
  have i_x_most : i64 x.most := hx.2
  go_enter Tryz.func65, Tryz.ntmps65
  go_upto_region 1 with fail
  generalize W.alloc (.cells #[.int .i64 x.first, .int .i64 x.most] 137) = W0 at kx0 kp0 hw0 hB0 F0 G0 ⊢
  generalize hbx : W.heap.size = bx at kx0 nx0 ⊢
  clear hbx hbl hp hw hB
  have p0 : W0.cell? ⟨pb, 0, none⟩ = some (.pointer (some ⟨g, 0, none⟩)) := kp0.cell 0
  have lp0 := kp0.lt
  have lx0 := kx0.lt
  have lg0 := hw0.lt
  have c0 : W0.cell? ⟨bx, 0, none⟩ = some (.int .i64 x.first) := kx0.cell 0
  have c1 : W0.cell? ⟨bx, 1, none⟩ = some (.int .i64 x.most) := kx0.cell 1
  have hbl0 := (Below.refl W0.heap.size W0).alloc (Nat.le_refl _) (.cells #[.int .i64 x.first, .int .i64 x.most] 3)
  have hsl0 := SlI.of_blk (Blk.new W0 3 #[.int .i64 x.first, .int .i64 x.most]) [x.first, x.most] rfl (show 2 ≤ 1000000 by omega) (fun z hz => by
    simp only [List.mem_cons, List.mem_nil_iff, or_false] at hz
    rcases hz with rfl | rfl <;> assumption)
  go_wp2_with fail
  refine (intsC_any (hw0.keep hbl0) (Nat.le_trans hB0.size hbl0.size) (by (try simp only [List.length_append]); omega) hsl0 (show 2 ≤ 1000 by omega) (fun b o _ e h => by cases e; have := hw0.bnd _ h; omega)).mono ?_
  rintro e W1 ⟨rfl, T1, hw1, hf1, hg1⟩
  clear hsl0
  have il0 : (intsB [x.first, x.most]).length ≤ 22 := intsB_len [x.first, x.most]
  replace hf1 : Fr T W0 W1 := (Fr.of_below hbl0 T).trans hf1
  replace hg1 : Grw T T1 W0 W1 := hg1.alloc_left hbl0.size
  have kp1 := kp0.fr hf1 np0
  have kx1 := kx0.fr hf1 nx0
  have np1 := grw_no hg1 lp0 np0
  have nx1 := grw_no hg1 lx0 nx0
  have hB1 := hB0.trans (hf1.below (fun b hb h => by have := hw0.lo b h; omega) hB0.size)
  have F1 : Fr T W W1 := F0.grw G0 hf1
  have G1 : Grw T T1 W W1 := G0.trans F0.size hg1
  clear p0 lp0 lx0 lg0 hf1 hg1 kp0 kx0 np0 nx0 F0 G0 hw0 c0 c1
  go_wp2_with fail
  go_end0
  refine ⟨rfl, T1, ?_, F1, G1⟩
  rw [Bool.or_false]
  unfold encSm
  try simp only [← List.append_assoc]
  exact hw1
set_option maxRecDepth 100000 in
theorem one_Pl {wa : World} {g pb : Nat} (x : Pl) (hx : x.ok wa) : OneW wa g (Cap g pb) 68 #[.agg #[.int .i64 x.size, .int .i64 x.depth], .pointer (some ⟨pb, 0, none⟩)] 60000000 (encPl x) false := by
  intro T W l lg hq hw hB hl
  obtain ⟨hp, hpT⟩ := hq
  have hbl := (Below.refl W.heap.size W).alloc (Nat.le_refl _) (.cells #[.int .i64 x.size, .int .i64 x.depth] 142)
  have kx0 := Blk.new W 142 #[.int .i64 x.size, .int .i64 x.depth]
  have kp0 := hp.keep hbl
  have hw0 := hw.keep hbl
  have hB0 := hB.trans (hbl.mono hB.size)
  have nx0 : ¬ T W.heap.size := fun h => by have := hw.bnd _ h; omega
  have np0 := hpT
  have F0 : Fr T W (W.alloc (.cells #[.int .i64 x.size, .int .i64 x.depth] 142)) := Fr.of_below hbl T
  have G0 : Grw T T W (W.alloc (.cells #[.int .i64 x.size, .int .i64 x.depth] 142)) := fun b hb => ⟨.inl hb, Nat.lt_of_lt_of_le (hw.bnd b hb) hbl.size⟩
  have i_x_size : i64 x.size := hx.1
  have i_x_depth : i64 x.depth := hx.2
  go_enter Tryz.func68, Tryz.ntmps68
  go_upto_region 1 with fail
  generalize W.alloc (.cells #[.int .i64 x.size, .int .i64 x.depth] 142) = W0 at kx0 kp0 hw0 hB0 F0 G0 ⊢
  generalize hbx : W.heap.size = bx at kx0 nx0 ⊢
  clear hbx hbl hp hw hB
  have p0 : W0.cell? ⟨pb, 0, none⟩ = some (.pointer (some ⟨g, 0, none⟩)) := kp0.cell 0
  have lp0 := kp0.lt
  have lx0 := kx0.lt
  have lg0 := hw0.lt
  have c0 : W0.cell? ⟨bx, 0, none⟩ = some (.int .i64 x.size) := kx0.cell 0
  have c1 : W0.cell? ⟨bx, 1, none⟩ = some (.int .i64 x.depth) := kx0.cell 1
  have hbl0 := (Below.refl W0.heap.size W0).alloc (Nat.le_refl _) (.cells #[.int .i64 x.size, .int .i64 x.depth] 3)
  have hsl0 := SlI.of_blk (Blk.new W0 3 #[.int .i64 x.size, .int .i64 x.depth]) [x.size, x.depth] rfl (show 2 ≤ 1000000 by omega) (fun z hz => by
    simp only [List.mem_cons, List.mem_nil_iff, or_false] at hz
    rcases hz with rfl | rfl <;> assumption)
  go_wp2_with fail
  refine (intsC_any (hw0.keep hbl0) (Nat.le_trans hB0.size hbl0.size) (by (try simp only [List.length_append]); omega) hsl0 (show 2 ≤ 1000 by omega) (fun b o _ e h => by cases e; have := hw0.bnd _ h; omega)).mono ?_
  rintro e W1 ⟨rfl, T1, hw1, hf1, hg1⟩
  clear hsl0
  have il0 : (intsB [x.size, x.depth]).length ≤ 22 := intsB_len [x.size, x.depth]
  replace hf1 : Fr T W0 W1 := (Fr.of_below hbl0 T).trans hf1
  replace hg1 : Grw T T1 W0 W1 := hg1.alloc_left hbl0.size
  have kp1 := kp0.fr hf1 np0
  have kx1 := kx0.fr hf1 nx0
  have np1 := grw_no hg1 lp0 np0
  have nx1 := grw_no hg1 lx0 nx0
  have hB1 := hB0.trans (hf1.below (fun b hb h => by have := hw0.lo b h; omega) hB0.size)
  have F1 : Fr T W W1 := F0.grw G0 hf1
  have G1 : Grw T T1 W W1 := G0.trans F0.size hg1
  clear p0 lp0 lx0 lg0 hf1 hg1 kp0 kx0 np0 nx0 F0 G0 hw0 c0 c1
  go_wp2_with fail
  go_end0
  refine ⟨rfl, T1, ?_, F1, G1⟩
  rw [Bool.or_false]
  unfold encPl
  try simp only [← List.append_assoc]
  exact hw1
set_option maxRecDepth 100000 in
theorem one_Wn {wa : World} {g pb : Nat} (x : Wn) (hx : x.ok wa) : OneW wa g (Cap g pb) 74 #[.agg #[.int .i64 x.part, .int .i64 x.start, .int .i64 x.len], .pointer (some ⟨pb, 0, none⟩)] 60000000 (encWn x) false := by
  intro T W l lg hq hw hB hl
  obtain ⟨hp, hpT⟩ := hq
  have hbl := (Below.refl W.heap.size W).alloc (Nat.le_refl _) (.cells #[.int .i64 x.part, .int .i64 x.start, .int .i64 x.len] 85)
  have kx0 := Blk.new W 85 #[.int .i64 x.part, .int .i64 x.start, .int .i64 x.len]
  have kp0 := hp.keep hbl
  have hw0 := hw.keep hbl
  have hB0 := hB.trans (hbl.mono hB.size)
  have nx0 : ¬ T W.heap.size := fun h => by have := hw.bnd _ h; omega
  have np0 := hpT
  have F0 : Fr T W (W.alloc (.cells #[.int .i64 x.part, .int .i64 x.start, .int .i64 x.len] 85)) := Fr.of_below hbl T
  have G0 : Grw T T W (W.alloc (.cells #[.int .i64 x.part, .int .i64 x.start, .int .i64 x.len] 85)) := fun b hb => ⟨.inl hb, Nat.lt_of_lt_of_le (hw.bnd b hb) hbl.size⟩
  have i_x_part : i64 x.part := hx.1
  have i_x_start : i64 x.start := hx.2.1
  have i_x_len : i64 x.len := hx.2.2
  go_enter Tryz.func74, Tryz.ntmps74
  go_upto_region 1 with fail
  generalize W.alloc (.cells #[.int .i64 x.part, .int .i64 x.start, .int .i64 x.len] 85) = W0 at kx0 kp0 hw0 hB0 F0 G0 ⊢
  generalize hbx : W.heap.size = bx at kx0 nx0 ⊢
  clear hbx hbl hp hw hB
  have p0 : W0.cell? ⟨pb, 0, none⟩ = some (.pointer (some ⟨g, 0, none⟩)) := kp0.cell 0
  have lp0 := kp0.lt
  have lx0 := kx0.lt
  have lg0 := hw0.lt
  have c0 : W0.cell? ⟨bx, 0, none⟩ = some (.int .i64 x.part) := kx0.cell 0
  have c1 : W0.cell? ⟨bx, 1, none⟩ = some (.int .i64 x.start) := kx0.cell 1
  have c2 : W0.cell? ⟨bx, 2, none⟩ = some (.int .i64 x.len) := kx0.cell 2
  have hbl0 := (Below.refl W0.heap.size W0).alloc (Nat.le_refl _) (.cells #[.int .i64 x.part, .int .i64 x.start, .int .i64 x.len] 3)
  have hsl0 := SlI.of_blk (Blk.new W0 3 #[.int .i64 x.part, .int .i64 x.start, .int .i64 x.len]) [x.part, x.start, x.len] rfl (show 3 ≤ 1000000 by omega) (fun z hz => by
    simp only [List.mem_cons, List.mem_nil_iff, or_false] at hz
    rcases hz with rfl | rfl | rfl <;> assumption)
  go_wp2_with fail
  refine (intsC_any (hw0.keep hbl0) (Nat.le_trans hB0.size hbl0.size) (by (try simp only [List.length_append]); omega) hsl0 (show 3 ≤ 1000 by omega) (fun b o _ e h => by cases e; have := hw0.bnd _ h; omega)).mono ?_
  rintro e W1 ⟨rfl, T1, hw1, hf1, hg1⟩
  clear hsl0
  have il0 : (intsB [x.part, x.start, x.len]).length ≤ 33 := intsB_len [x.part, x.start, x.len]
  replace hf1 : Fr T W0 W1 := (Fr.of_below hbl0 T).trans hf1
  replace hg1 : Grw T T1 W0 W1 := hg1.alloc_left hbl0.size
  have kp1 := kp0.fr hf1 np0
  have kx1 := kx0.fr hf1 nx0
  have np1 := grw_no hg1 lp0 np0
  have nx1 := grw_no hg1 lx0 nx0
  have hB1 := hB0.trans (hf1.below (fun b hb h => by have := hw0.lo b h; omega) hB0.size)
  have F1 : Fr T W W1 := F0.grw G0 hf1
  have G1 : Grw T T1 W W1 := G0.trans F0.size hg1
  clear p0 lp0 lx0 lg0 hf1 hg1 kp0 kx0 np0 nx0 F0 G0 hw0 c0 c1 c2
  go_wp2_with fail
  go_end0
  refine ⟨rfl, T1, ?_, F1, G1⟩
  rw [Bool.or_false]
  unfold encWn
  try simp only [← List.append_assoc]
  exact hw1
set_option maxRecDepth 100000 in
theorem one_Lv {wa : World} {g pb : Nat} (x : Lv) (hx : x.ok wa) : OneW wa g (Cap g pb) 76 #[.agg #[.int .i64 x.freq, .int .i64 x.power], .pointer (some ⟨pb, 0, none⟩)] 60000000 (encLv x) false := by
  intro T W l lg hq hw hB hl
  obtain ⟨hp, hpT⟩ := hq
  have hbl := (Below.refl W.heap.size W).alloc (Nat.le_refl _) (.cells #[.int .i64 x.freq, .int .i64 x.power] 87)
  have kx0 := Blk.new W 87 #[.int .i64 x.freq, .int .i64 x.power]
  have kp0 := hp.keep hbl
  have hw0 := hw.keep hbl
  have hB0 := hB.trans (hbl.mono hB.size)
  have nx0 : ¬ T W.heap.size := fun h => by have := hw.bnd _ h; omega
  have np0 := hpT
  have F0 : Fr T W (W.alloc (.cells #[.int .i64 x.freq, .int .i64 x.power] 87)) := Fr.of_below hbl T
  have G0 : Grw T T W (W.alloc (.cells #[.int .i64 x.freq, .int .i64 x.power] 87)) := fun b hb => ⟨.inl hb, Nat.lt_of_lt_of_le (hw.bnd b hb) hbl.size⟩
  have i_x_freq : i64 x.freq := hx.1
  have i_x_power : i64 x.power := hx.2
  go_enter Tryz.func76, Tryz.ntmps76
  go_upto_region 1 with fail
  generalize W.alloc (.cells #[.int .i64 x.freq, .int .i64 x.power] 87) = W0 at kx0 kp0 hw0 hB0 F0 G0 ⊢
  generalize hbx : W.heap.size = bx at kx0 nx0 ⊢
  clear hbx hbl hp hw hB
  have p0 : W0.cell? ⟨pb, 0, none⟩ = some (.pointer (some ⟨g, 0, none⟩)) := kp0.cell 0
  have lp0 := kp0.lt
  have lx0 := kx0.lt
  have lg0 := hw0.lt
  have c0 : W0.cell? ⟨bx, 0, none⟩ = some (.int .i64 x.freq) := kx0.cell 0
  have c1 : W0.cell? ⟨bx, 1, none⟩ = some (.int .i64 x.power) := kx0.cell 1
  have hbl0 := (Below.refl W0.heap.size W0).alloc (Nat.le_refl _) (.cells #[.int .i64 x.freq, .int .i64 x.power] 3)
  have hsl0 := SlI.of_blk (Blk.new W0 3 #[.int .i64 x.freq, .int .i64 x.power]) [x.freq, x.power] rfl (show 2 ≤ 1000000 by omega) (fun z hz => by
    simp only [List.mem_cons, List.mem_nil_iff, or_false] at hz
    rcases hz with rfl | rfl <;> assumption)
  go_wp2_with fail
  refine (intsC_any (hw0.keep hbl0) (Nat.le_trans hB0.size hbl0.size) (by (try simp only [List.length_append]); omega) hsl0 (show 2 ≤ 1000 by omega) (fun b o _ e h => by cases e; have := hw0.bnd _ h; omega)).mono ?_
  rintro e W1 ⟨rfl, T1, hw1, hf1, hg1⟩
  clear hsl0
  have il0 : (intsB [x.freq, x.power]).length ≤ 22 := intsB_len [x.freq, x.power]
  replace hf1 : Fr T W0 W1 := (Fr.of_below hbl0 T).trans hf1
  replace hg1 : Grw T T1 W0 W1 := hg1.alloc_left hbl0.size
  have kp1 := kp0.fr hf1 np0
  have kx1 := kx0.fr hf1 nx0
  have np1 := grw_no hg1 lp0 np0
  have nx1 := grw_no hg1 lx0 nx0
  have hB1 := hB0.trans (hf1.below (fun b hb h => by have := hw0.lo b h; omega) hB0.size)
  have F1 : Fr T W W1 := F0.grw G0 hf1
  have G1 : Grw T T1 W W1 := G0.trans F0.size hg1
  clear p0 lp0 lx0 lg0 hf1 hg1 kp0 kx0 np0 nx0 F0 G0 hw0 c0 c1
  go_wp2_with fail
  go_end0
  refine ⟨rfl, T1, ?_, F1, G1⟩
  rw [Bool.or_false]
  unfold encLv
  try simp only [← List.append_assoc]
  exact hw1
set_option maxRecDepth 100000 in
theorem one_Np {wa : World} {g pb : Nat} (x : Np) (hx : x.ok wa) : OneW wa g (Cap g pb) 78 #[.agg #[.int .i64 x.power, .int .i64 x.enter, .int .i64 x.wake], .pointer (some ⟨pb, 0, none⟩)] 60000000 (encNp x) false := by
  intro T W l lg hq hw hB hl
  obtain ⟨hp, hpT⟩ := hq
  have hbl := (Below.refl W.heap.size W).alloc (Nat.le_refl _) (.cells #[.int .i64 x.power, .int .i64 x.enter, .int .i64 x.wake] 89)
  have kx0 := Blk.new W 89 #[.int .i64 x.power, .int .i64 x.enter, .int .i64 x.wake]
  have kp0 := hp.keep hbl
  have hw0 := hw.keep hbl
  have hB0 := hB.trans (hbl.mono hB.size)
  have nx0 : ¬ T W.heap.size := fun h => by have := hw.bnd _ h; omega
  have np0 := hpT
  have F0 : Fr T W (W.alloc (.cells #[.int .i64 x.power, .int .i64 x.enter, .int .i64 x.wake] 89)) := Fr.of_below hbl T
  have G0 : Grw T T W (W.alloc (.cells #[.int .i64 x.power, .int .i64 x.enter, .int .i64 x.wake] 89)) := fun b hb => ⟨.inl hb, Nat.lt_of_lt_of_le (hw.bnd b hb) hbl.size⟩
  have i_x_power : i64 x.power := hx.1
  have i_x_enter : i64 x.enter := hx.2.1
  have i_x_wake : i64 x.wake := hx.2.2
  go_enter Tryz.func78, Tryz.ntmps78
  go_upto_region 1 with fail
  generalize W.alloc (.cells #[.int .i64 x.power, .int .i64 x.enter, .int .i64 x.wake] 89) = W0 at kx0 kp0 hw0 hB0 F0 G0 ⊢
  generalize hbx : W.heap.size = bx at kx0 nx0 ⊢
  clear hbx hbl hp hw hB
  have p0 : W0.cell? ⟨pb, 0, none⟩ = some (.pointer (some ⟨g, 0, none⟩)) := kp0.cell 0
  have lp0 := kp0.lt
  have lx0 := kx0.lt
  have lg0 := hw0.lt
  have c0 : W0.cell? ⟨bx, 0, none⟩ = some (.int .i64 x.power) := kx0.cell 0
  have c1 : W0.cell? ⟨bx, 1, none⟩ = some (.int .i64 x.enter) := kx0.cell 1
  have c2 : W0.cell? ⟨bx, 2, none⟩ = some (.int .i64 x.wake) := kx0.cell 2
  have hbl0 := (Below.refl W0.heap.size W0).alloc (Nat.le_refl _) (.cells #[.int .i64 x.power, .int .i64 x.enter, .int .i64 x.wake] 3)
  have hsl0 := SlI.of_blk (Blk.new W0 3 #[.int .i64 x.power, .int .i64 x.enter, .int .i64 x.wake]) [x.power, x.enter, x.wake] rfl (show 3 ≤ 1000000 by omega) (fun z hz => by
    simp only [List.mem_cons, List.mem_nil_iff, or_false] at hz
    rcases hz with rfl | rfl | rfl <;> assumption)
  go_wp2_with fail
  refine (intsC_any (hw0.keep hbl0) (Nat.le_trans hB0.size hbl0.size) (by (try simp only [List.length_append]); omega) hsl0 (show 3 ≤ 1000 by omega) (fun b o _ e h => by cases e; have := hw0.bnd _ h; omega)).mono ?_
  rintro e W1 ⟨rfl, T1, hw1, hf1, hg1⟩
  clear hsl0
  have il0 : (intsB [x.power, x.enter, x.wake]).length ≤ 33 := intsB_len [x.power, x.enter, x.wake]
  replace hf1 : Fr T W0 W1 := (Fr.of_below hbl0 T).trans hf1
  replace hg1 : Grw T T1 W0 W1 := hg1.alloc_left hbl0.size
  have kp1 := kp0.fr hf1 np0
  have kx1 := kx0.fr hf1 nx0
  have np1 := grw_no hg1 lp0 np0
  have nx1 := grw_no hg1 lx0 nx0
  have hB1 := hB0.trans (hf1.below (fun b hb h => by have := hw0.lo b h; omega) hB0.size)
  have F1 : Fr T W W1 := F0.grw G0 hf1
  have G1 : Grw T T1 W W1 := G0.trans F0.size hg1
  clear p0 lp0 lx0 lg0 hf1 hg1 kp0 kx0 np0 nx0 F0 G0 hw0 c0 c1 c2
  go_wp2_with fail
  go_end0
  refine ⟨rfl, T1, ?_, F1, G1⟩
  rw [Bool.or_false]
  unfold encNp
  try simp only [← List.append_assoc]
  exact hw1
set_option maxRecDepth 100000 in
theorem one_Ch {wa : World} {g pb : Nat} (x : Ch) (hx : x.ok wa) : OneW wa g (Cap g pb) 18 #[.agg #[.int .i64 x.fr.part, .int .i64 x.fr.port, .int .i64 x.to.part, .int .i64 x.to.port], .pointer (some ⟨pb, 0, none⟩)] 60000000 (encCh x) false := by
  intro T W l lg hq hw hB hl
  obtain ⟨hp, hpT⟩ := hq
  have hbl := (Below.refl W.heap.size W).alloc (Nat.le_refl _) (.cells #[.int .i64 x.fr.part, .int .i64 x.fr.port, .int .i64 x.to.part, .int .i64 x.to.port] 72)
  have kx0 := Blk.new W 72 #[.int .i64 x.fr.part, .int .i64 x.fr.port, .int .i64 x.to.part, .int .i64 x.to.port]
  have kp0 := hp.keep hbl
  have hw0 := hw.keep hbl
  have hB0 := hB.trans (hbl.mono hB.size)
  have nx0 : ¬ T W.heap.size := fun h => by have := hw.bnd _ h; omega
  have np0 := hpT
  have F0 : Fr T W (W.alloc (.cells #[.int .i64 x.fr.part, .int .i64 x.fr.port, .int .i64 x.to.part, .int .i64 x.to.port] 72)) := Fr.of_below hbl T
  have G0 : Grw T T W (W.alloc (.cells #[.int .i64 x.fr.part, .int .i64 x.fr.port, .int .i64 x.to.part, .int .i64 x.to.port] 72)) := fun b hb => ⟨.inl hb, Nat.lt_of_lt_of_le (hw.bnd b hb) hbl.size⟩
  have i_x_fr_part : i64 x.fr.part := hx.1.1
  have i_x_fr_port : i64 x.fr.port := hx.1.2
  have i_x_to_part : i64 x.to.part := hx.2.1
  have i_x_to_port : i64 x.to.port := hx.2.2
  go_enter Tryz.func18, Tryz.ntmps18
  go_upto_region 1 with fail
  generalize W.alloc (.cells #[.int .i64 x.fr.part, .int .i64 x.fr.port, .int .i64 x.to.part, .int .i64 x.to.port] 72) = W0 at kx0 kp0 hw0 hB0 F0 G0 ⊢
  generalize hbx : W.heap.size = bx at kx0 nx0 ⊢
  clear hbx hbl hp hw hB
  have p0 : W0.cell? ⟨pb, 0, none⟩ = some (.pointer (some ⟨g, 0, none⟩)) := kp0.cell 0
  have lp0 := kp0.lt
  have lx0 := kx0.lt
  have lg0 := hw0.lt
  have c0 : W0.cell? ⟨bx, 0, none⟩ = some (.int .i64 x.fr.part) := kx0.cell 0
  have c1 : W0.cell? ⟨bx, 1, none⟩ = some (.int .i64 x.fr.port) := kx0.cell 1
  have c2 : W0.cell? ⟨bx, 2, none⟩ = some (.int .i64 x.to.part) := kx0.cell 2
  have c3 : W0.cell? ⟨bx, 3, none⟩ = some (.int .i64 x.to.port) := kx0.cell 3
  have hbl0 := (Below.refl W0.heap.size W0).alloc (Nat.le_refl _) (.cells #[.int .i64 x.fr.part, .int .i64 x.fr.port, .int .i64 x.to.part, .int .i64 x.to.port] 3)
  have hsl0 := SlI.of_blk (Blk.new W0 3 #[.int .i64 x.fr.part, .int .i64 x.fr.port, .int .i64 x.to.part, .int .i64 x.to.port]) [x.fr.part, x.fr.port, x.to.part, x.to.port] rfl (show 4 ≤ 1000000 by omega) (fun z hz => by
    simp only [List.mem_cons, List.mem_nil_iff, or_false] at hz
    rcases hz with rfl | rfl | rfl | rfl <;> assumption)
  go_wp2_with fail
  refine (intsC_any (hw0.keep hbl0) (Nat.le_trans hB0.size hbl0.size) (by (try simp only [List.length_append]); omega) hsl0 (show 4 ≤ 1000 by omega) (fun b o _ e h => by cases e; have := hw0.bnd _ h; omega)).mono ?_
  rintro e W1 ⟨rfl, T1, hw1, hf1, hg1⟩
  clear hsl0
  have il0 : (intsB [x.fr.part, x.fr.port, x.to.part, x.to.port]).length ≤ 44 := intsB_len [x.fr.part, x.fr.port, x.to.part, x.to.port]
  replace hf1 : Fr T W0 W1 := (Fr.of_below hbl0 T).trans hf1
  replace hg1 : Grw T T1 W0 W1 := hg1.alloc_left hbl0.size
  have kp1 := kp0.fr hf1 np0
  have kx1 := kx0.fr hf1 nx0
  have np1 := grw_no hg1 lp0 np0
  have nx1 := grw_no hg1 lx0 nx0
  have hB1 := hB0.trans (hf1.below (fun b hb h => by have := hw0.lo b h; omega) hB0.size)
  have F1 : Fr T W W1 := F0.grw G0 hf1
  have G1 : Grw T T1 W W1 := G0.trans F0.size hg1
  clear p0 lp0 lx0 lg0 hf1 hg1 kp0 kx0 np0 nx0 F0 G0 hw0 c0 c1 c2 c3
  go_wp2_with fail
  go_end0
  refine ⟨rfl, T1, ?_, F1, G1⟩
  rw [Bool.or_false]
  unfold encCh
  try simp only [← List.append_assoc]
  exact hw1
theorem one_In {wa : World} {g : Nat} (x : Int) (hx : i64 x) : OneW wa g (fun _ _ => True) 66 #[.pointer (some ⟨g, 0, none⟩), .int .i64 x] 60000000 (vint x) false := by
  intro T W l lg _ hw hB hl
  rw [Bool.or_false]
  exact writeIntC_any hw hB.size (by omega) hx
end Go.Proofs.YtahjnonkhbpnpaaGreat
