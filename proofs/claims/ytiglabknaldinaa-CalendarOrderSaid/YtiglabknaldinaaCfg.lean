/- How a configuration is read: each struct's cells, what is known of them, and how an argument is read. Printed by wip/gen_cfg.py. -/
import Derived.Test.YtiglabknaldinaaGen
import Derived.Test.YtiglabknaldinaaChecked
namespace Go.Proofs.Ytiglabknaldinaa
open Go.ChangeShapes Go.WideShapes Go.ChangeAt Go.RowKit Go.Joins
theorem owns_le {w : World} {base : Nat} {e : TypeId} {sz : Nat} {v : Value} {n : Nat} {xs : List Value} (h : w.ownsRow base e sz v n xs) (k : Nat) (hk : v.ownBlock = some k) : base ≤ k := by
  rcases h.2 with ⟨rfl, _⟩ | ⟨g, cap, cur, rfl, hb, _⟩
  · cases hk
  · cases hk; exact hb
theorem app_below {wo w w' : World} {e : TypeId} {sz : Nat} {v : Value} {n : Nat} {xs : List Value} (hB : Below wo.heap.size wo w) (h : w.ownsRow wo.heap.size e sz v n xs) (hf : Fr (fun k => v.ownBlock = some k) w w') : Below wo.heap.size wo w' :=
  hB.trans (hf.below (fun k hk h' => by have := owns_le h k h'; omega) hB.size)
/-- a slice's head, and what it holds. -/
structure Hd (α : Type) where
  A : Option Addr
  c : Nat
  l : List α
def Hd.v {α : Type} (h : Hd α) : Value := .slice h.A h.l.length h.c
/-- how a type's cells are read. -/
structure Rd (P : Program) (t : TypeId) (α : Type) where
  sz : Nat
  f : α → List Value
  ok : World → α → Prop
  len : ∀ x, (f x).length = sz
  keep : ∀ {W W' : World} {x : α}, ok W x → Below W.heap.size W W' → ok W' x
  trod : ∀ {H : Type} {enc : TypeId × Value → H} {W : World} {fuel : Nat} {cs : List Value} {x : DataW H × List MemPlace}, cs.length = sz → DataW.trod enc P W 0 (fun _ => true) true fuel t cs = some x → ∃ a, cs = f a ∧ ok W a
theorem u_int : Try.prog.underlying 3 = some (.int .i64) := by kernel_rfl
theorem u_ints : Try.prog.underlying 29 = some (.slice 3) := by kernel_rfl
theorem c_int : Try.prog.cellsOf 3 = 1 := by kernel_rfl
def rdInt : Rd Try.prog 3 Int where
  sz := 1
  f z := [.int .i64 z]
  ok _ z := i64 z
  len _ := rfl
  keep h _ := h
  trod hl h := by
    rename_i cs _
    match cs, hl with
    | [v], _ =>
      obtain ⟨n, rfl, wn⟩ := trod_int_one u_int h
      exact ⟨n, rfl, i64_of_wf wn⟩
def rdBool : Rd Try.prog 4 Bool where
  sz := 1
  f b := [.bool b]
  ok _ _ := True
  len _ := rfl
  keep h _ := h
  trod hl h := by
    rename_i cs _
    match cs, hl with
    | [v], _ =>
      obtain ⟨b, e, _⟩ := DataW.trod_bool Try.u_bool h
      exact ⟨b, e, trivial⟩
def Hd.okI (W : World) (h : Hd Int) : Prop := SlI W h.A h.l.length h.c h.l
def rdInts : Rd Try.prog 29 (Hd Int) where
  sz := 1
  f h := [h.v]
  ok W h := h.okI W
  len _ := rfl
  keep h hb := SlI.keep h hb
  trod hl h := by
    rename_i cs _
    match cs, hl with
    | [v], _ =>
      obtain ⟨A, n, c, l, rfl, hs⟩ := trod_SlI u_ints u_int c_int h
      have := hs.2.1
      subst this
      exact ⟨⟨A, c, l⟩, rfl, hs⟩
def Hd.ok {P : Program} {α : Type} {e : TypeId} (r : Rd P e α) (W : World) (h : Hd α) : Prop := SlG W h.A h.l.length h.c r.sz r.f h.l ∧ ∀ x ∈ h.l, r.ok W x
theorem Hd.ok.keep {P : Program} {α : Type} {e : TypeId} {r : Rd P e α} {W W' : World} {h : Hd α} (H : h.ok r W) (hb : Below W.heap.size W W') : h.ok r W' := ⟨H.1.keep hb, fun x hx => r.keep (H.2 x hx) hb⟩
/-- a slice of what is read. -/
def rdSl {P : Program} {α : Type} {e : TypeId} (t : TypeId) (r : Rd P e α) (ht : P.underlying t = some (.slice e)) (hC : P.cellsOf e = r.sz) (hs : 0 < r.sz) : Rd P t (Hd α) where
  sz := 1
  f h := [h.v]
  ok W h := h.ok r W
  len _ := rfl
  keep H hb := H.keep hb
  trod hl h := by
    rename_i cs _
    match cs, hl with
    | [v], _ =>
      obtain ⟨A, n, c, l, rfl, hsl, hok⟩ := trod_SlG (f := r.f) (ok := r.ok _) ht hC hs (fun fuel cs x hl h => r.trod hl h) h
      have := hsl.2.1
      subst this
      exact ⟨⟨A, c, l⟩, rfl, hsl, hok⟩
theorem rd_arg {P : Program} {t : TypeId} {α : Type} (R : Rd P t α) {fs : Array Field} (hu : P.underlying t = some (.struct fs)) (hC : P.cellsOf t = R.sz) {H : Type} {enc : TypeId × Value → H} {W : World} {r : Reach} {base : Nat} {v : Value} {d : DataW H} {p : List MemPlace}
    (hv : Value.okWide P W r base t v) (h : DataW.Trod enc P W 0 (fun _ => true) true t v d p) : ∃ x, v = .agg (R.f x).toArray ∧ R.ok W x := by
  obtain ⟨cs, rfl, hsz⟩ := okWide_struct hu hv
  obtain ⟨fuel, hf⟩ := h
  obtain ⟨x, h1, h2⟩ := R.trod (cs := cs.toList) (by simpa [hC] using hsz) hf
  exact ⟨x, by rw [← h1], h2⟩
theorem rd_args {P : Program} {t : TypeId} {α : Type} {e : TypeId} (R : Rd P t (Hd α)) (hf : ∀ h, R.f h = [h.v]) (hsz : R.sz = 1) (ht : P.underlying t = some (.slice e)) {H : Type} {enc : TypeId × Value → H} {W : World} {r : Reach} {base : Nat} {v : Value} {d : DataW H} {p : List MemPlace}
    (hv : Value.okWide P W r base t v) (h : DataW.Trod enc P W 0 (fun _ => true) true t v d p) : ∃ x, v = x.v ∧ R.ok W x := by
  obtain ⟨a, len, cap, rfl⟩ := okWide_slice ht hv
  obtain ⟨fuel, hf'⟩ := h
  obtain ⟨x, h1, h2⟩ := R.trod (cs := [.slice a len cap]) (by rw [hsz]; rfl) (by simpa [Value.cells] using hf')
  rw [hf] at h1
  exact ⟨x, by injection h1, h2⟩
noncomputable def fieldsOf (t : TypeId) : Array Field := match Try.prog.underlying t with | some (.struct fs) => fs | _ => #[]
structure Rg where
  base : Int
  size : Int
  wr : Bool
def Rg.f (x : Rg) : List Value := [.int .i64 x.base, .int .i64 x.size, .bool x.wr]
def Rg0 : Rg := ⟨0, 0, false⟩
def Rg.ok (W : World) (x : Rg) : Prop := rdInt.ok W x.base ∧ rdInt.ok W x.size ∧ rdBool.ok W x.wr
theorem u_Rg : Try.prog.underlying 93 = some (.struct (fieldsOf 93)) := by kernel_rfl
noncomputable def rdRg : Rd Try.prog 93 Rg where
  sz := 3
  f := Rg.f
  ok := Rg.ok
  len _ := rfl
  keep H hb := ⟨rdInt.keep H.1 hb, rdInt.keep H.2.1 hb, rdBool.keep H.2.2 hb⟩
  trod hl h := by
    rename_i cs _
    match cs, hl with
    | [v0, v1, v2], _ =>
      obtain ⟨_, _, g0⟩ := trod_field u_Rg h 0 3 0 1 (by kernel_rfl) (by kernel_rfl)
      obtain ⟨x0, e0, o0⟩ := rdInt.trod rfl g0
      obtain ⟨_, _, g1⟩ := trod_field u_Rg h 1 3 1 1 (by kernel_rfl) (by kernel_rfl)
      obtain ⟨x1, e1, o1⟩ := rdInt.trod rfl g1
      obtain ⟨_, _, g2⟩ := trod_field u_Rg h 2 4 2 1 (by kernel_rfl) (by kernel_rfl)
      obtain ⟨x2, e2, o2⟩ := rdBool.trod rfl g2
      cases e0
      cases e1
      cases e2
      exact ⟨⟨x0, x1, x2⟩, rfl, o0, o1, o2⟩
structure Pc where
  prio : Int
  per : Int
  cost : Int
def Pc.f (x : Pc) : List Value := [.int .i64 x.prio, .int .i64 x.per, .int .i64 x.cost]
def Pc0 : Pc := ⟨0, 0, 0⟩
def Pc.ok (W : World) (x : Pc) : Prop := rdInt.ok W x.prio ∧ rdInt.ok W x.per ∧ rdInt.ok W x.cost
theorem u_Pc : Try.prog.underlying 95 = some (.struct (fieldsOf 95)) := by kernel_rfl
noncomputable def rdPc : Rd Try.prog 95 Pc where
  sz := 3
  f := Pc.f
  ok := Pc.ok
  len _ := rfl
  keep H hb := ⟨rdInt.keep H.1 hb, rdInt.keep H.2.1 hb, rdInt.keep H.2.2 hb⟩
  trod hl h := by
    rename_i cs _
    match cs, hl with
    | [v0, v1, v2], _ =>
      obtain ⟨_, _, g0⟩ := trod_field u_Pc h 0 3 0 1 (by kernel_rfl) (by kernel_rfl)
      obtain ⟨x0, e0, o0⟩ := rdInt.trod rfl g0
      obtain ⟨_, _, g1⟩ := trod_field u_Pc h 1 3 1 1 (by kernel_rfl) (by kernel_rfl)
      obtain ⟨x1, e1, o1⟩ := rdInt.trod rfl g1
      obtain ⟨_, _, g2⟩ := trod_field u_Pc h 2 3 2 1 (by kernel_rfl) (by kernel_rfl)
      obtain ⟨x2, e2, o2⟩ := rdInt.trod rfl g2
      cases e0
      cases e1
      cases e2
      exact ⟨⟨x0, x1, x2⟩, rfl, o0, o1, o2⟩
structure Po where
  q : Bool
  inn : Bool
  size : Int
  depth : Int
def Po.f (x : Po) : List Value := [.bool x.q, .bool x.inn, .int .i64 x.size, .int .i64 x.depth]
def Po0 : Po := ⟨false, false, 0, 0⟩
def Po.ok (W : World) (x : Po) : Prop := rdBool.ok W x.q ∧ rdBool.ok W x.inn ∧ rdInt.ok W x.size ∧ rdInt.ok W x.depth
theorem u_Po : Try.prog.underlying 97 = some (.struct (fieldsOf 97)) := by kernel_rfl
noncomputable def rdPo : Rd Try.prog 97 Po where
  sz := 4
  f := Po.f
  ok := Po.ok
  len _ := rfl
  keep H hb := ⟨rdBool.keep H.1 hb, rdBool.keep H.2.1 hb, rdInt.keep H.2.2.1 hb, rdInt.keep H.2.2.2 hb⟩
  trod hl h := by
    rename_i cs _
    match cs, hl with
    | [v0, v1, v2, v3], _ =>
      obtain ⟨_, _, g0⟩ := trod_field u_Po h 0 4 0 1 (by kernel_rfl) (by kernel_rfl)
      obtain ⟨x0, e0, o0⟩ := rdBool.trod rfl g0
      obtain ⟨_, _, g1⟩ := trod_field u_Po h 1 4 1 1 (by kernel_rfl) (by kernel_rfl)
      obtain ⟨x1, e1, o1⟩ := rdBool.trod rfl g1
      obtain ⟨_, _, g2⟩ := trod_field u_Po h 2 3 2 1 (by kernel_rfl) (by kernel_rfl)
      obtain ⟨x2, e2, o2⟩ := rdInt.trod rfl g2
      obtain ⟨_, _, g3⟩ := trod_field u_Po h 3 3 3 1 (by kernel_rfl) (by kernel_rfl)
      obtain ⟨x3, e3, o3⟩ := rdInt.trod rfl g3
      cases e0
      cases e1
      cases e2
      cases e3
      exact ⟨⟨x0, x1, x2, x3⟩, rfl, o0, o1, o2, o3⟩
structure Sm where
  first : Int
  most : Int
def Sm.f (x : Sm) : List Value := [.int .i64 x.first, .int .i64 x.most]
def Sm0 : Sm := ⟨0, 0⟩
def Sm.ok (W : World) (x : Sm) : Prop := rdInt.ok W x.first ∧ rdInt.ok W x.most
theorem u_Sm : Try.prog.underlying 114 = some (.struct (fieldsOf 114)) := by kernel_rfl
noncomputable def rdSm : Rd Try.prog 114 Sm where
  sz := 2
  f := Sm.f
  ok := Sm.ok
  len _ := rfl
  keep H hb := ⟨rdInt.keep H.1 hb, rdInt.keep H.2 hb⟩
  trod hl h := by
    rename_i cs _
    match cs, hl with
    | [v0, v1], _ =>
      obtain ⟨_, _, g0⟩ := trod_field u_Sm h 0 3 0 1 (by kernel_rfl) (by kernel_rfl)
      obtain ⟨x0, e0, o0⟩ := rdInt.trod rfl g0
      obtain ⟨_, _, g1⟩ := trod_field u_Sm h 1 3 1 1 (by kernel_rfl) (by kernel_rfl)
      obtain ⟨x1, e1, o1⟩ := rdInt.trod rfl g1
      cases e0
      cases e1
      exact ⟨⟨x0, x1⟩, rfl, o0, o1⟩
structure Pl where
  size : Int
  depth : Int
def Pl.f (x : Pl) : List Value := [.int .i64 x.size, .int .i64 x.depth]
def Pl0 : Pl := ⟨0, 0⟩
def Pl.ok (W : World) (x : Pl) : Prop := rdInt.ok W x.size ∧ rdInt.ok W x.depth
theorem u_Pl : Try.prog.underlying 116 = some (.struct (fieldsOf 116)) := by kernel_rfl
noncomputable def rdPl : Rd Try.prog 116 Pl where
  sz := 2
  f := Pl.f
  ok := Pl.ok
  len _ := rfl
  keep H hb := ⟨rdInt.keep H.1 hb, rdInt.keep H.2 hb⟩
  trod hl h := by
    rename_i cs _
    match cs, hl with
    | [v0, v1], _ =>
      obtain ⟨_, _, g0⟩ := trod_field u_Pl h 0 3 0 1 (by kernel_rfl) (by kernel_rfl)
      obtain ⟨x0, e0, o0⟩ := rdInt.trod rfl g0
      obtain ⟨_, _, g1⟩ := trod_field u_Pl h 1 3 1 1 (by kernel_rfl) (by kernel_rfl)
      obtain ⟨x1, e1, o1⟩ := rdInt.trod rfl g1
      cases e0
      cases e1
      exact ⟨⟨x0, x1⟩, rfl, o0, o1⟩
noncomputable def rdRgs : Rd Try.prog 64 (Hd Rg) := rdSl 64 rdRg (by kernel_rfl) (by kernel_rfl) (by decide)
noncomputable def rdPcs : Rd Try.prog 65 (Hd Pc) := rdSl 65 rdPc (by kernel_rfl) (by kernel_rfl) (by decide)
noncomputable def rdPos : Rd Try.prog 66 (Hd Po) := rdSl 66 rdPo (by kernel_rfl) (by kernel_rfl) (by decide)
noncomputable def rdSms : Rd Try.prog 67 (Hd Sm) := rdSl 67 rdSm (by kernel_rfl) (by kernel_rfl) (by decide)
noncomputable def rdPls : Rd Try.prog 68 (Hd Pl) := rdSl 68 rdPl (by kernel_rfl) (by kernel_rfl) (by decide)
structure Pt where
  regs : Hd Rg
  procs : Hd Pc
  ports : Hd Po
  sems : Hd Sm
  flags : Int
  pools : Hd Pl
  slates : Hd Int
  cap : Int
  bud : Int
  lad : Int
  acts : Hd Int
def Pt.f (x : Pt) : List Value := [x.regs.v, x.procs.v, x.ports.v, x.sems.v, .int .i64 x.flags, x.pools.v, x.slates.v, .int .i64 x.cap, .int .i64 x.bud, .int .i64 x.lad, x.acts.v]
def Pt0 : Pt := ⟨⟨none, 0, []⟩, ⟨none, 0, []⟩, ⟨none, 0, []⟩, ⟨none, 0, []⟩, 0, ⟨none, 0, []⟩, ⟨none, 0, []⟩, 0, 0, 0, ⟨none, 0, []⟩⟩
def Pt.ok (W : World) (x : Pt) : Prop := rdRgs.ok W x.regs ∧ rdPcs.ok W x.procs ∧ rdPos.ok W x.ports ∧ rdSms.ok W x.sems ∧ rdInt.ok W x.flags ∧ rdPls.ok W x.pools ∧ rdInts.ok W x.slates ∧ rdInt.ok W x.cap ∧ rdInt.ok W x.bud ∧ rdInt.ok W x.lad ∧ rdInts.ok W x.acts
theorem u_Pt : Try.prog.underlying 70 = some (.struct (fieldsOf 70)) := by kernel_rfl
noncomputable def rdPt : Rd Try.prog 70 Pt where
  sz := 11
  f := Pt.f
  ok := Pt.ok
  len _ := rfl
  keep H hb := ⟨rdRgs.keep H.1 hb, rdPcs.keep H.2.1 hb, rdPos.keep H.2.2.1 hb, rdSms.keep H.2.2.2.1 hb, rdInt.keep H.2.2.2.2.1 hb, rdPls.keep H.2.2.2.2.2.1 hb, rdInts.keep H.2.2.2.2.2.2.1 hb, rdInt.keep H.2.2.2.2.2.2.2.1 hb, rdInt.keep H.2.2.2.2.2.2.2.2.1 hb, rdInt.keep H.2.2.2.2.2.2.2.2.2.1 hb, rdInts.keep H.2.2.2.2.2.2.2.2.2.2 hb⟩
  trod hl h := by
    rename_i cs _
    match cs, hl with
    | [v0, v1, v2, v3, v4, v5, v6, v7, v8, v9, v10], _ =>
      obtain ⟨_, _, g0⟩ := trod_field u_Pt h 0 64 0 1 (by kernel_rfl) (by kernel_rfl)
      obtain ⟨x0, e0, o0⟩ := rdRgs.trod rfl g0
      obtain ⟨_, _, g1⟩ := trod_field u_Pt h 1 65 1 1 (by kernel_rfl) (by kernel_rfl)
      obtain ⟨x1, e1, o1⟩ := rdPcs.trod rfl g1
      obtain ⟨_, _, g2⟩ := trod_field u_Pt h 2 66 2 1 (by kernel_rfl) (by kernel_rfl)
      obtain ⟨x2, e2, o2⟩ := rdPos.trod rfl g2
      obtain ⟨_, _, g3⟩ := trod_field u_Pt h 3 67 3 1 (by kernel_rfl) (by kernel_rfl)
      obtain ⟨x3, e3, o3⟩ := rdSms.trod rfl g3
      obtain ⟨_, _, g4⟩ := trod_field u_Pt h 4 3 4 1 (by kernel_rfl) (by kernel_rfl)
      obtain ⟨x4, e4, o4⟩ := rdInt.trod rfl g4
      obtain ⟨_, _, g5⟩ := trod_field u_Pt h 5 68 5 1 (by kernel_rfl) (by kernel_rfl)
      obtain ⟨x5, e5, o5⟩ := rdPls.trod rfl g5
      obtain ⟨_, _, g6⟩ := trod_field u_Pt h 6 29 6 1 (by kernel_rfl) (by kernel_rfl)
      obtain ⟨x6, e6, o6⟩ := rdInts.trod rfl g6
      obtain ⟨_, _, g7⟩ := trod_field u_Pt h 7 3 7 1 (by kernel_rfl) (by kernel_rfl)
      obtain ⟨x7, e7, o7⟩ := rdInt.trod rfl g7
      obtain ⟨_, _, g8⟩ := trod_field u_Pt h 8 3 8 1 (by kernel_rfl) (by kernel_rfl)
      obtain ⟨x8, e8, o8⟩ := rdInt.trod rfl g8
      obtain ⟨_, _, g9⟩ := trod_field u_Pt h 9 3 9 1 (by kernel_rfl) (by kernel_rfl)
      obtain ⟨x9, e9, o9⟩ := rdInt.trod rfl g9
      obtain ⟨_, _, g10⟩ := trod_field u_Pt h 10 29 10 1 (by kernel_rfl) (by kernel_rfl)
      obtain ⟨x10, e10, o10⟩ := rdInts.trod rfl g10
      cases e0
      cases e1
      cases e2
      cases e3
      cases e4
      cases e5
      cases e6
      cases e7
      cases e8
      cases e9
      cases e10
      exact ⟨⟨x0, x1, x2, x3, x4, x5, x6, x7, x8, x9, x10⟩, rfl, o0, o1, o2, o3, o4, o5, o6, o7, o8, o9, o10⟩
structure En where
  part : Int
  port : Int
def En.f (x : En) : List Value := [.int .i64 x.part, .int .i64 x.port]
def En0 : En := ⟨0, 0⟩
def En.ok (W : World) (x : En) : Prop := rdInt.ok W x.part ∧ rdInt.ok W x.port
theorem u_En : Try.prog.underlying 105 = some (.struct (fieldsOf 105)) := by kernel_rfl
noncomputable def rdEn : Rd Try.prog 105 En where
  sz := 2
  f := En.f
  ok := En.ok
  len _ := rfl
  keep H hb := ⟨rdInt.keep H.1 hb, rdInt.keep H.2 hb⟩
  trod hl h := by
    rename_i cs _
    match cs, hl with
    | [v0, v1], _ =>
      obtain ⟨_, _, g0⟩ := trod_field u_En h 0 3 0 1 (by kernel_rfl) (by kernel_rfl)
      obtain ⟨x0, e0, o0⟩ := rdInt.trod rfl g0
      obtain ⟨_, _, g1⟩ := trod_field u_En h 1 3 1 1 (by kernel_rfl) (by kernel_rfl)
      obtain ⟨x1, e1, o1⟩ := rdInt.trod rfl g1
      cases e0
      cases e1
      exact ⟨⟨x0, x1⟩, rfl, o0, o1⟩
structure Ch where
  fr : En
  «to» : En
def Ch.f (x : Ch) : List Value := [.int .i64 x.fr.part, .int .i64 x.fr.port, .int .i64 x.to.part, .int .i64 x.to.port]
def Ch0 : Ch := ⟨En0, En0⟩
def Ch.ok (W : World) (x : Ch) : Prop := rdEn.ok W x.fr ∧ rdEn.ok W x.to
theorem u_Ch : Try.prog.underlying 107 = some (.struct (fieldsOf 107)) := by kernel_rfl
noncomputable def rdCh : Rd Try.prog 107 Ch where
  sz := 4
  f := Ch.f
  ok := Ch.ok
  len _ := rfl
  keep H hb := ⟨rdEn.keep H.1 hb, rdEn.keep H.2 hb⟩
  trod hl h := by
    rename_i cs _
    match cs, hl with
    | [v0, v1, v2, v3], _ =>
      obtain ⟨_, _, g0⟩ := trod_field u_Ch h 0 105 0 2 (by kernel_rfl) (by kernel_rfl)
      obtain ⟨x0, e0, o0⟩ := rdEn.trod rfl g0
      obtain ⟨_, _, g1⟩ := trod_field u_Ch h 1 105 2 2 (by kernel_rfl) (by kernel_rfl)
      obtain ⟨x1, e1, o1⟩ := rdEn.trod rfl g1
      cases e0
      cases e1
      exact ⟨⟨x0, x1⟩, rfl, o0, o1⟩
structure Wn where
  part : Int
  start : Int
  len : Int
def Wn.f (x : Wn) : List Value := [.int .i64 x.part, .int .i64 x.start, .int .i64 x.len]
def Wn0 : Wn := ⟨0, 0, 0⟩
def Wn.ok (W : World) (x : Wn) : Prop := rdInt.ok W x.part ∧ rdInt.ok W x.start ∧ rdInt.ok W x.len
theorem u_Wn : Try.prog.underlying 55 = some (.struct (fieldsOf 55)) := by kernel_rfl
noncomputable def rdWn : Rd Try.prog 55 Wn where
  sz := 3
  f := Wn.f
  ok := Wn.ok
  len _ := rfl
  keep H hb := ⟨rdInt.keep H.1 hb, rdInt.keep H.2.1 hb, rdInt.keep H.2.2 hb⟩
  trod hl h := by
    rename_i cs _
    match cs, hl with
    | [v0, v1, v2], _ =>
      obtain ⟨_, _, g0⟩ := trod_field u_Wn h 0 3 0 1 (by kernel_rfl) (by kernel_rfl)
      obtain ⟨x0, e0, o0⟩ := rdInt.trod rfl g0
      obtain ⟨_, _, g1⟩ := trod_field u_Wn h 1 3 1 1 (by kernel_rfl) (by kernel_rfl)
      obtain ⟨x1, e1, o1⟩ := rdInt.trod rfl g1
      obtain ⟨_, _, g2⟩ := trod_field u_Wn h 2 3 2 1 (by kernel_rfl) (by kernel_rfl)
      obtain ⟨x2, e2, o2⟩ := rdInt.trod rfl g2
      cases e0
      cases e1
      cases e2
      exact ⟨⟨x0, x1, x2⟩, rfl, o0, o1, o2⟩
noncomputable def rdWns : Rd Try.prog 47 (Hd Wn) := rdSl 47 rdWn (by kernel_rfl) (by kernel_rfl) (by decide)
structure Md where
  frame : Int
  wins : Hd Wn
def Md.f (x : Md) : List Value := [.int .i64 x.frame, x.wins.v]
def Md0 : Md := ⟨0, ⟨none, 0, []⟩⟩
def Md.ok (W : World) (x : Md) : Prop := rdInt.ok W x.frame ∧ rdWns.ok W x.wins
theorem u_Md : Try.prog.underlying 49 = some (.struct (fieldsOf 49)) := by kernel_rfl
noncomputable def rdMd : Rd Try.prog 49 Md where
  sz := 2
  f := Md.f
  ok := Md.ok
  len _ := rfl
  keep H hb := ⟨rdInt.keep H.1 hb, rdWns.keep H.2 hb⟩
  trod hl h := by
    rename_i cs _
    match cs, hl with
    | [v0, v1], _ =>
      obtain ⟨_, _, g0⟩ := trod_field u_Md h 0 3 0 1 (by kernel_rfl) (by kernel_rfl)
      obtain ⟨x0, e0, o0⟩ := rdInt.trod rfl g0
      obtain ⟨_, _, g1⟩ := trod_field u_Md h 1 47 1 1 (by kernel_rfl) (by kernel_rfl)
      obtain ⟨x1, e1, o1⟩ := rdWns.trod rfl g1
      cases e0
      cases e1
      exact ⟨⟨x0, x1⟩, rfl, o0, o1⟩
structure Lv where
  freq : Int
  power : Int
def Lv.f (x : Lv) : List Value := [.int .i64 x.freq, .int .i64 x.power]
def Lv0 : Lv := ⟨0, 0⟩
def Lv.ok (W : World) (x : Lv) : Prop := rdInt.ok W x.freq ∧ rdInt.ok W x.power
theorem u_Lv : Try.prog.underlying 100 = some (.struct (fieldsOf 100)) := by kernel_rfl
noncomputable def rdLv : Rd Try.prog 100 Lv where
  sz := 2
  f := Lv.f
  ok := Lv.ok
  len _ := rfl
  keep H hb := ⟨rdInt.keep H.1 hb, rdInt.keep H.2 hb⟩
  trod hl h := by
    rename_i cs _
    match cs, hl with
    | [v0, v1], _ =>
      obtain ⟨_, _, g0⟩ := trod_field u_Lv h 0 3 0 1 (by kernel_rfl) (by kernel_rfl)
      obtain ⟨x0, e0, o0⟩ := rdInt.trod rfl g0
      obtain ⟨_, _, g1⟩ := trod_field u_Lv h 1 3 1 1 (by kernel_rfl) (by kernel_rfl)
      obtain ⟨x1, e1, o1⟩ := rdInt.trod rfl g1
      cases e0
      cases e1
      exact ⟨⟨x0, x1⟩, rfl, o0, o1⟩
structure Np where
  power : Int
  enter : Int
  wake : Int
def Np.f (x : Np) : List Value := [.int .i64 x.power, .int .i64 x.enter, .int .i64 x.wake]
def Np0 : Np := ⟨0, 0, 0⟩
def Np.ok (W : World) (x : Np) : Prop := rdInt.ok W x.power ∧ rdInt.ok W x.enter ∧ rdInt.ok W x.wake
theorem u_Np : Try.prog.underlying 102 = some (.struct (fieldsOf 102)) := by kernel_rfl
noncomputable def rdNp : Rd Try.prog 102 Np where
  sz := 3
  f := Np.f
  ok := Np.ok
  len _ := rfl
  keep H hb := ⟨rdInt.keep H.1 hb, rdInt.keep H.2.1 hb, rdInt.keep H.2.2 hb⟩
  trod hl h := by
    rename_i cs _
    match cs, hl with
    | [v0, v1, v2], _ =>
      obtain ⟨_, _, g0⟩ := trod_field u_Np h 0 3 0 1 (by kernel_rfl) (by kernel_rfl)
      obtain ⟨x0, e0, o0⟩ := rdInt.trod rfl g0
      obtain ⟨_, _, g1⟩ := trod_field u_Np h 1 3 1 1 (by kernel_rfl) (by kernel_rfl)
      obtain ⟨x1, e1, o1⟩ := rdInt.trod rfl g1
      obtain ⟨_, _, g2⟩ := trod_field u_Np h 2 3 2 1 (by kernel_rfl) (by kernel_rfl)
      obtain ⟨x2, e2, o2⟩ := rdInt.trod rfl g2
      cases e0
      cases e1
      cases e2
      exact ⟨⟨x0, x1, x2⟩, rfl, o0, o1, o2⟩
noncomputable def rdLvs : Rd Try.prog 25 (Hd Lv) := rdSl 25 rdLv (by kernel_rfl) (by kernel_rfl) (by decide)
noncomputable def rdNps : Rd Try.prog 26 (Hd Np) := rdSl 26 rdNp (by kernel_rfl) (by kernel_rfl) (by decide)
structure Pw where
  levels : Hd Lv
  naps : Hd Np
  sw : Int
  idle : Int
  change : Int
  quant : Int
  slow : Int
  ppm : Int
def Pw.f (x : Pw) : List Value := [x.levels.v, x.naps.v, .int .i64 x.sw, .int .i64 x.idle, .int .i64 x.change, .int .i64 x.quant, .int .i64 x.slow, .int .i64 x.ppm]
def Pw0 : Pw := ⟨⟨none, 0, []⟩, ⟨none, 0, []⟩, 0, 0, 0, 0, 0, 0⟩
def Pw.ok (W : World) (x : Pw) : Prop := rdLvs.ok W x.levels ∧ rdNps.ok W x.naps ∧ rdInt.ok W x.sw ∧ rdInt.ok W x.idle ∧ rdInt.ok W x.change ∧ rdInt.ok W x.quant ∧ rdInt.ok W x.slow ∧ rdInt.ok W x.ppm
theorem u_Pw : Try.prog.underlying 28 = some (.struct (fieldsOf 28)) := by kernel_rfl
noncomputable def rdPw : Rd Try.prog 28 Pw where
  sz := 8
  f := Pw.f
  ok := Pw.ok
  len _ := rfl
  keep H hb := ⟨rdLvs.keep H.1 hb, rdNps.keep H.2.1 hb, rdInt.keep H.2.2.1 hb, rdInt.keep H.2.2.2.1 hb, rdInt.keep H.2.2.2.2.1 hb, rdInt.keep H.2.2.2.2.2.1 hb, rdInt.keep H.2.2.2.2.2.2.1 hb, rdInt.keep H.2.2.2.2.2.2.2 hb⟩
  trod hl h := by
    rename_i cs _
    match cs, hl with
    | [v0, v1, v2, v3, v4, v5, v6, v7], _ =>
      obtain ⟨_, _, g0⟩ := trod_field u_Pw h 0 25 0 1 (by kernel_rfl) (by kernel_rfl)
      obtain ⟨x0, e0, o0⟩ := rdLvs.trod rfl g0
      obtain ⟨_, _, g1⟩ := trod_field u_Pw h 1 26 1 1 (by kernel_rfl) (by kernel_rfl)
      obtain ⟨x1, e1, o1⟩ := rdNps.trod rfl g1
      obtain ⟨_, _, g2⟩ := trod_field u_Pw h 2 3 2 1 (by kernel_rfl) (by kernel_rfl)
      obtain ⟨x2, e2, o2⟩ := rdInt.trod rfl g2
      obtain ⟨_, _, g3⟩ := trod_field u_Pw h 3 3 3 1 (by kernel_rfl) (by kernel_rfl)
      obtain ⟨x3, e3, o3⟩ := rdInt.trod rfl g3
      obtain ⟨_, _, g4⟩ := trod_field u_Pw h 4 3 4 1 (by kernel_rfl) (by kernel_rfl)
      obtain ⟨x4, e4, o4⟩ := rdInt.trod rfl g4
      obtain ⟨_, _, g5⟩ := trod_field u_Pw h 5 3 5 1 (by kernel_rfl) (by kernel_rfl)
      obtain ⟨x5, e5, o5⟩ := rdInt.trod rfl g5
      obtain ⟨_, _, g6⟩ := trod_field u_Pw h 6 3 6 1 (by kernel_rfl) (by kernel_rfl)
      obtain ⟨x6, e6, o6⟩ := rdInt.trod rfl g6
      obtain ⟨_, _, g7⟩ := trod_field u_Pw h 7 3 7 1 (by kernel_rfl) (by kernel_rfl)
      obtain ⟨x7, e7, o7⟩ := rdInt.trod rfl g7
      cases e0
      cases e1
      cases e2
      cases e3
      cases e4
      cases e5
      cases e6
      cases e7
      exact ⟨⟨x0, x1, x2, x3, x4, x5, x6, x7⟩, rfl, o0, o1, o2, o3, o4, o5, o6, o7⟩
structure Sd where
  down : Hd Int
  up : Hd Int
def Sd.f (x : Sd) : List Value := [x.down.v, x.up.v]
def Sd0 : Sd := ⟨⟨none, 0, []⟩, ⟨none, 0, []⟩⟩
def Sd.ok (W : World) (x : Sd) : Prop := rdInts.ok W x.down ∧ rdInts.ok W x.up
theorem u_Sd : Try.prog.underlying 31 = some (.struct (fieldsOf 31)) := by kernel_rfl
noncomputable def rdSd : Rd Try.prog 31 Sd where
  sz := 2
  f := Sd.f
  ok := Sd.ok
  len _ := rfl
  keep H hb := ⟨rdInts.keep H.1 hb, rdInts.keep H.2 hb⟩
  trod hl h := by
    rename_i cs _
    match cs, hl with
    | [v0, v1], _ =>
      obtain ⟨_, _, g0⟩ := trod_field u_Sd h 0 29 0 1 (by kernel_rfl) (by kernel_rfl)
      obtain ⟨x0, e0, o0⟩ := rdInts.trod rfl g0
      obtain ⟨_, _, g1⟩ := trod_field u_Sd h 1 29 1 1 (by kernel_rfl) (by kernel_rfl)
      obtain ⟨x1, e1, o1⟩ := rdInts.trod rfl g1
      cases e0
      cases e1
      exact ⟨⟨x0, x1⟩, rfl, o0, o1⟩
noncomputable def rdPts : Rd Try.prog 22 (Hd Pt) := rdSl 22 rdPt (by kernel_rfl) (by kernel_rfl) (by decide)
noncomputable def rdChs : Rd Try.prog 23 (Hd Ch) := rdSl 23 rdCh (by kernel_rfl) (by kernel_rfl) (by decide)
noncomputable def rdMds : Rd Try.prog 24 (Hd Md) := rdSl 24 rdMd (by kernel_rfl) (by kernel_rfl) (by decide)
structure Cf where
  parts : Hd Pt
  chans : Hd Ch
  modes : Hd Md
  pw : Pw
  shed : Sd
def Cf.f (x : Cf) : List Value := [x.parts.v, x.chans.v, x.modes.v, x.pw.levels.v, x.pw.naps.v, .int .i64 x.pw.sw, .int .i64 x.pw.idle, .int .i64 x.pw.change, .int .i64 x.pw.quant, .int .i64 x.pw.slow, .int .i64 x.pw.ppm, x.shed.down.v, x.shed.up.v]
def Cf0 : Cf := ⟨⟨none, 0, []⟩, ⟨none, 0, []⟩, ⟨none, 0, []⟩, Pw0, Sd0⟩
def Cf.ok (W : World) (x : Cf) : Prop := rdPts.ok W x.parts ∧ rdChs.ok W x.chans ∧ rdMds.ok W x.modes ∧ rdPw.ok W x.pw ∧ rdSd.ok W x.shed
theorem u_Cf : Try.prog.underlying 33 = some (.struct (fieldsOf 33)) := by kernel_rfl
noncomputable def rdCf : Rd Try.prog 33 Cf where
  sz := 13
  f := Cf.f
  ok := Cf.ok
  len _ := rfl
  keep H hb := ⟨rdPts.keep H.1 hb, rdChs.keep H.2.1 hb, rdMds.keep H.2.2.1 hb, rdPw.keep H.2.2.2.1 hb, rdSd.keep H.2.2.2.2 hb⟩
  trod hl h := by
    rename_i cs _
    match cs, hl with
    | [v0, v1, v2, v3, v4, v5, v6, v7, v8, v9, v10, v11, v12], _ =>
      obtain ⟨_, _, g0⟩ := trod_field u_Cf h 0 22 0 1 (by kernel_rfl) (by kernel_rfl)
      obtain ⟨x0, e0, o0⟩ := rdPts.trod rfl g0
      obtain ⟨_, _, g1⟩ := trod_field u_Cf h 1 23 1 1 (by kernel_rfl) (by kernel_rfl)
      obtain ⟨x1, e1, o1⟩ := rdChs.trod rfl g1
      obtain ⟨_, _, g2⟩ := trod_field u_Cf h 2 24 2 1 (by kernel_rfl) (by kernel_rfl)
      obtain ⟨x2, e2, o2⟩ := rdMds.trod rfl g2
      obtain ⟨_, _, g3⟩ := trod_field u_Cf h 3 28 3 8 (by kernel_rfl) (by kernel_rfl)
      obtain ⟨x3, e3, o3⟩ := rdPw.trod rfl g3
      obtain ⟨_, _, g4⟩ := trod_field u_Cf h 4 31 11 2 (by kernel_rfl) (by kernel_rfl)
      obtain ⟨x4, e4, o4⟩ := rdSd.trod rfl g4
      cases e0
      cases e1
      cases e2
      cases e3
      cases e4
      exact ⟨⟨x0, x1, x2, x3, x4⟩, rfl, o0, o1, o2, o3, o4⟩
end Go.Proofs.Ytiglabknaldinaa
