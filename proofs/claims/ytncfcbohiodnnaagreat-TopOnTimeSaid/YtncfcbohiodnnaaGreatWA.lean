/- Parts of this seat's claims. -/
import Derived.Test.YtncfcbohiodnnaaGreatProg
import Derived.WalkKit
import Derived.Lib.Hide
import Derived.Deep.DeepFit
set_option maxRecDepth 100000
set_option maxHeartbeats 6400000
namespace Go.Proofs.YtncfcbohiodnnaaGreat
open Go.RowKit
abbrev ii : Int → Value := Value.int .i64
abbrev pp (b : Nat) : Value := .pointer (some ⟨b, 0, none⟩)
abbrev bW (w w' : World) : Prop := Below w.heap.size w w'
abbrev cP := Calls Tryz.prog
theorem zhd {p : Prop} (h : p) : Hid p := h
theorem zo {p : Prop} (h : p := by omega) : p := h
theorem zd {p : Prop} (h : p := by decide) : p := h
theorem zp {p : Prop} (h : p := by simp) : p := h
theorem zk {p : Prop} (h : p := by kernel_rfl) : p := h
theorem zr {p : Prop} (h : p := by rfl) : p := h
theorem inC {f : FuncId} {a : Array Value} {w : World} {R : Ending → World → Prop} (h : Calls Tryz.prog f a w R) : Calls Tryz.prog f a w R := h
abbrev nS : Value := .slice none 0 0
abbrev cR (f : FuncId) (a : Array Value) (w : World) (v : Value) : Prop := Calls Tryz.prog f a w fun e w' => e = .returned v ∧ Below w.heap.size w w'
theorem zi {P Q : Prop} (q : Q) (s : Q → P := by
    intro hQ
    refine inC ?_
    go_in
    exact hQ) : P := s q
theorem aO {p : Prop} (h : p := by (simp; omega)) : p := h
theorem aW {p : Prop} (h : p := by (unfold wrap64; omega)) : p := h
theorem aE {p : Prop} (h : p := by (simp [Value.oneCell'])) : p := h
theorem aA {p : Prop} (h : p := by assumption) : p := h
theorem iW (k : Nat) (h : (k : Int) < 9223372036854775807 := by omega) : wrap64 ((k : Int) + 1) = ((k + 1 : Nat) : Int) := by (unfold wrap64; omega)
theorem aU {α : Sort _} (a : α) : ∃ b, b = a := ⟨a, rfl⟩
theorem aQ {Q : Nat → Prop} (p : Nat) (h : p < 0) : Q p := absurd h (Nat.not_lt_zero p)
abbrev Zv:=@Array.getD_eq_getD_getElem?
abbrev ZD:=@Array.getElem?_eq_getElem
abbrev Q3:=@Array.getElem?_eq_none
abbrev Z8:=@Array.getElem?_eq_some_iff
abbrev Xs:=@Array.getElem?_setIfInBounds_ne
abbrev X6:=@Array.getElem?_setIfInBounds_self_of_lt
abbrev X4:=@Array.getElem?_toList
abbrev Qu:=@Array.setIfInBounds_comm
abbrev Zu:=@Below.refl
abbrev Z6:=@Bool.and_eq_true
abbrev Qf:=@Bool.eq_false_iff
abbrev ZS:=@Bool.false_eq_true
abbrev ZC:=@Bool.false_ne_true
abbrev Qx:=@Bool.not_eq_true'
abbrev QH:=@Bool.or_eq_true
abbrev XO:=@Bool.true_and
abbrev Zi:=@Calls.mono
abbrev Xa:=@Int.add_mul
abbrev Xn:=@Int.add_zero
abbrev XY:=@Int.ediv_nonneg
abbrev QY:=@Int.emod_lt_of_pos
abbrev XB:=@Int.emod_nonneg
abbrev Zf:=@Int.eq_ofNat_of_zero_le
abbrev Zw:=@Int.le_refl
abbrev QJ:=@Int.le_trans
abbrev XG:=@Int.mul_comm
abbrev Qg:=@Int.mul_le_mul_of_nonneg_left
abbrev Qe:=@Int.mul_le_mul_of_nonneg_right
abbrev QO:=@Int.mul_nonneg
abbrev Q7:=@Int.natCast_add
abbrev Z4:=@Int.toNat_natCast
abbrev XF:=@Int.zero_add
abbrev ZP:=@IntKind.wrap_u64
abbrev Q4:=@IntWalk.i64_in
abbrev XH:=@IntWalk.u64_in
abbrev Qc:=@List.all_eq_true
abbrev Xq:=@List.any_eq_false
abbrev XS:=@List.any_eq_true
abbrev ZU:=@List.append_assoc
abbrev ZG:=@List.append_nil
abbrev QR:=@List.cons_append
abbrev Qq:=@List.drop_eq_getElem_cons
abbrev Xr:=@List.drop_eq_nil_of_le
abbrev Xf:=@List.drop_length
abbrev ZI:=@List.eq_nil_of_length_eq_zero
abbrev QE:=@List.filter_append
abbrev XR:=@List.filter_cons
abbrev Qn:=@List.flatMap_append
abbrev Ql:=@List.flatMap_cons
abbrev ZJ:=@List.foldl_append
abbrev QZ:=@List.foldl_cons
abbrev QN:=@List.getD_cons_succ
abbrev QM:=@List.getD_cons_zero
abbrev Z7:=@List.getD_eq_getElem?_getD
abbrev Xc:=@List.getElem?_append_right
abbrev XK:=@List.getElem?_drop
abbrev Zo:=@List.getElem?_eq_getElem
abbrev Q_:=@List.getElem?_eq_none
abbrev ZL:=@List.getElem?_eq_some_iff
abbrev X5:=@List.getElem?_map
abbrev Qw:=@List.getElem?_set
abbrev QX:=@List.getElem?_take
abbrev QC:=@List.getElem_map
abbrev ZO:=@List.getElem_mem
abbrev ZX:=@List.getElem_of_mem
abbrev Ze:=@List.length_append
abbrev Zj:=@List.length_cons
abbrev Qb:=@List.length_drop
abbrev QT:=@List.length_eq_zero_iff
abbrev Qs:=@List.length_filter_le
abbrev Zh:=@List.length_map
abbrev Qp:=@List.length_nil
abbrev Qv:=@List.length_range
abbrev Qr:=@List.length_replicate
abbrev Zd:=@List.length_set
abbrev ZK:=@List.length_singleton
abbrev Zq:=@List.length_take
abbrev Zk:=@List.map_append
abbrev Xl:=@List.map_singleton
abbrev ZE:=@List.mem_append
abbrev Zx:=@List.mem_cons
abbrev Q5:=@List.mem_cons_of_mem
abbrev XJ:=@List.mem_cons_self
abbrev QG:=@List.mem_filter
abbrev Zz:=@List.mem_map
abbrev QQ:=@List.mem_nil_iff
abbrev ZV:=@List.mem_of_mem_take
abbrev ZQ:=@List.mem_range
abbrev Zc:=@List.mem_singleton
abbrev Q6:=@List.nil_append
abbrev ZB:=@List.not_mem_nil
abbrev XI:=@List.prefix_append
abbrev Zr:=@List.prefix_rfl
abbrev ZY:=@List.range_succ
abbrev ZA:=@List.setIfInBounds_toArray
abbrev ZR:=@List.set_cons_succ
abbrev ZW:=@List.set_cons_zero
abbrev ZN:=@List.set_eq_of_length_le
abbrev XV:=@List.set_set
abbrev Xz:=@List.take_append_of_le_length
abbrev ZF:=@List.take_length
abbrev Zs:=@List.take_of_length_le
abbrev Zm:=@List.take_succ_eq_append_getElem
abbrev Qd:=@MapKept.run_getObj_map
abbrev XW:=@MapKept.run_setObj_map
abbrev Qh:=@Nat.add_assoc
abbrev QV:=@Nat.add_comm
abbrev ZT:=@Nat.add_mul
abbrev Qa:=@Nat.add_zero
abbrev Xi:=@Nat.div_add_mod
abbrev Xt:=@Nat.div_lt_iff_lt_mul
abbrev XC:=@Nat.div_mul_le_self
abbrev QW:=@Nat.eq_zero_or_pos
abbrev QB:=@Nat.le_add_right
abbrev Xh:=@Nat.le_antisymm
abbrev Xd:=@Nat.le_of_eq
abbrev QP:=@Nat.le_of_not_lt
abbrev XM:=@Nat.le_succ
abbrev Zb:=@Nat.le_trans
abbrev Q0:=@Nat.lt_of_le_of_lt
abbrev Zg:=@Nat.lt_of_lt_of_le
abbrev ZH:=@Nat.lt_or_ge
abbrev XQ:=@Nat.lt_succ_self
abbrev QF:=@Nat.min_eq_left
abbrev Xj:=@Nat.mod_lt
abbrev Xg:=@Nat.mul_assoc
abbrev Q8:=@Nat.mul_comm
abbrev QD:=@Nat.mul_le_mul
abbrev Qz:=@Nat.mul_le_mul_left
abbrev ZZ:=@Nat.mul_le_mul_right
abbrev Qo:=@Nat.mul_one
abbrev XE:=@Nat.ne_of_gt
abbrev XU:=@Nat.not_lt
abbrev Zn:=@Nat.not_lt_zero
abbrev X9:=@Nat.one_mul
abbrev Xe:=@Nat.succ_le_succ
abbrev XA:=@Nat.two_pow_pos
abbrev Zp:=@Nat.zero_add
abbrev Za:=@Nat.zero_le
abbrev XD:=@Nat.zero_mul
abbrev QL:=@Ne.symm
abbrev XX:=@Oper.apart_spec
abbrev XP:=@Option.getD_some
abbrev Qm:=@Option.ne_none_iff_exists'
abbrev Xx:=@Region.free_spec
abbrev Xb:=@Region.noSelect_spec
abbrev QK:=@Result.andThen_ok
abbrev Xm:=@Sem.run_bind
abbrev Qk:=@World.ownsRow_nil
abbrev Z9:=@World.size_alloc
abbrev Zl:=@beq_eq_false_iff_ne
abbrev ZM:=@beq_iff_eq
abbrev Z_:=@bodyPost_ret
abbrev QU:=@callsIn_wide
abbrev Zy:=@congrArg
abbrev Z3:=@decide_eq_false
abbrev XT:=@decide_eq_false_iff_not
abbrev Z5:=@decide_eq_true
abbrev Zt:=@decide_eq_true_eq
abbrev Xw:=@execOp_put
abbrev QA:=@getD_set_ne
abbrev XN:=@getD_set_true
abbrev Qj:=@heap_alloc_new
abbrev Xo:=@heap_alloc_old
abbrev X8:=@if_false
abbrev Z0:=@if_neg
abbrev Z1:=@if_pos
abbrev Xy:=@if_true
abbrev Xv:=@info_parts
abbrev XL:=@leaves_cons
abbrev Qt:=@mem_ready
abbrev Xk:=@of_decide_eq_false
abbrev Xp:=@of_decide_eq_true
abbrev X7:=@or_false
abbrev Qy:=@ready_mono
abbrev QI:=@rounds_succ
abbrev Qi:=@run_underlying
abbrev Xu:=@wanted_put
end Go.Proofs.YtncfcbohiodnnaaGreat
