/- Words and walks for the claims of this seat, merged: CwOne, CwSpec, RfBase, CwElem, CwList0. -/
import Derived.Test.YtahjnonkhbpnpaaGreatCm0
import Derived.Test.YtahjnonkhbpnpaaGreatCm1
/- What writes one element of a list. -/
namespace Go.Proofs.YtahjnonkhbpnpaaGreat
open Go.RowKit
/-- Q lasts while a writer writes. -/
def Stq (Q : (Nat → Prop) → World → Prop) : Prop := ∀ T T' W W', Q T W → Fr T W W' → Grw T T' W W' → Q T' W'
/-- called with these arguments, F writes enc, and notes bad. -/
def OneW (wa : World) (g : Nat) (Q : (Nat → Prop) → World → Prop) (F : FuncId) (args : Array Value) (N : Nat) (enc : List UInt8) (bad : Bool) : Prop :=
  ∀ (T : Nat → Prop) (W : World) (l : List UInt8) (lg : Bool), Q T W → WrC W wa.heap.size g T l lg → Below wa.heap.size wa W → l.length ≤ N → Calls Tryz.prog F args W (Wro W wa.heap.size g T (l ++ enc) (lg || bad))
theorem WrC.setLong {W : World} {B0 g : Nat} {T : Nat → Prop} {l : List UInt8} {lg : Bool} (h : WrC W B0 g T l lg) (lg2 : Bool) : WrC (W.setCell ⟨g, 1, none⟩ (.bool lg2)) B0 g T l lg2 := by
  obtain ⟨⟨v, h1, h2, h3⟩, h4, h5, h6⟩ := h
  refine ⟨⟨v, by simpa using h1.set_ 1 (.bool lg2), own_fr h2 ((Fr.refl (· = g) W).setCell (p := ⟨g, 1, none⟩) (fun _ => rfl) _) (fun b hb _ h => by omega), h3⟩, h4, h5, fun b hb => by simpa using h6 b hb⟩
theorem flat_le {α : Type} (enc : α → List UInt8) {M : Nat} : ∀ (l : List α), (∀ x ∈ l, (enc x).length ≤ M) → ∀ k, l.length ≤ k → (l.flatMap enc).length ≤ k * M
  | [], _, k, _ => by simp
  | x :: l, h, k, hk => by
    rw [List.length_cons] at hk
    obtain ⟨k, rfl⟩ : ∃ k', k = k' + 1 := ⟨k - 1, by omega⟩
    have h1 := h x (by simp)
    have h2 := flat_le enc l (fun y hy => h y (by simp [hy])) k (by omega)
    rw [List.flatMap_cons, List.length_append, Nat.add_mul, Nat.one_mul]
    omega
theorem at0_atD (l : List Int) (k : Nat) : at0 l k = atD 0 l k := rfl
end Go.Proofs.YtahjnonkhbpnpaaGreat
/- A configuration's bytes: the plain law. -/
namespace Go.Proofs.YtahjnonkhbpnpaaGreat
open Go.RowKit
def lst {α : Type} (enc : α → List UInt8) (l : List α) : List UInt8 := vint l.length ++ l.flatMap enc
def badL {α : Type} (bad : α → Bool) (l : List α) : Bool := decide (64 < l.length) || l.any bad
def noB {α : Type} (_ : α) : Bool := false
def encRg (x : Rg) : List UInt8 := intsB [x.base, x.size] ++ vbool x.wr
def encPc (x : Pc) : List UInt8 := intsB [x.prio, x.per, x.cost]
def encPo (x : Po) : List UInt8 := vbool x.q ++ vbool x.inn ++ intsB [x.size, x.depth]
def encSm (x : Sm) : List UInt8 := intsB [x.first, x.most]
def encPl (x : Pl) : List UInt8 := intsB [x.size, x.depth]
def encWn (x : Wn) : List UInt8 := intsB [x.part, x.start, x.len]
def encLv (x : Lv) : List UInt8 := intsB [x.freq, x.power]
def encNp (x : Np) : List UInt8 := intsB [x.power, x.enter, x.wake]
def encCh (x : Ch) : List UInt8 := intsB [x.fr.part, x.fr.port, x.to.part, x.to.port]
def encPt (x : Pt) : List UInt8 := lst encRg x.regs.l ++ lst encPc x.procs.l ++ lst encPo x.ports.l ++ lst encSm x.sems.l ++ vint x.flags ++ lst encPl x.pools.l ++ lst vint x.slates.l ++ intsB [x.cap, x.bud, x.lad] ++ lst vint x.acts.l
def badPt (x : Pt) : Bool := badL noB x.regs.l || badL noB x.procs.l || badL noB x.ports.l || badL noB x.sems.l || badL noB x.pools.l || badL noB x.slates.l || badL noB x.acts.l
def encMd (x : Md) : List UInt8 := vint x.frame ++ lst encWn x.wins.l
def badMd (x : Md) : Bool := badL noB x.wins.l
def encPw (x : Pw) : List UInt8 := lst encLv x.levels.l ++ lst encNp x.naps.l ++ intsB [x.sw, x.idle, x.change, x.quant, x.slow, x.ppm]
def badPw (x : Pw) : Bool := badL noB x.levels.l || badL noB x.naps.l
def encCf (x : Cf) : List UInt8 := lst encPt x.parts.l ++ lst encCh x.chans.l ++ lst encMd x.modes.l ++ encPw x.pw ++ lst vint x.shed.down.l ++ lst vint x.shed.up.l
def badCf (x : Cf) : Bool := badL badPt x.parts.l || badL noB x.chans.l || badL badMd x.modes.l || badPw x.pw || badL noB x.shed.down.l || badL noB x.shed.up.l
theorem lst_len {α : Type} (enc : α → List UInt8) {M : Nat} (l : List α) (h : ∀ x ∈ l, (enc x).length ≤ M) (hn : l.length ≤ 100) : (lst enc l).length ≤ 11 + 100 * M := by
  have h1 := vint_len (l.length : Int)
  have h2 := flat_le enc l h 100 hn
  unfold lst
  rw [List.length_append]
  omega
theorem vint_le (x : Int) : (vint x).length ≤ 11 := (vint_len x).2
theorem encRg_len (x : Rg) : (encRg x).length ≤ 23 := by
  have := intsB_len [x.base, x.size]
  unfold encRg vbool
  rw [List.length_append]
  simp at this ⊢
  omega
theorem encPc_len (x : Pc) : (encPc x).length ≤ 33 := intsB_len [x.prio, x.per, x.cost]
theorem encPo_len (x : Po) : (encPo x).length ≤ 24 := by
  have := intsB_len [x.size, x.depth]
  unfold encPo vbool
  rw [List.length_append, List.length_append]
  simp at this ⊢
  omega
theorem encSm_len (x : Sm) : (encSm x).length ≤ 22 := intsB_len [x.first, x.most]
theorem encPl_len (x : Pl) : (encPl x).length ≤ 22 := intsB_len [x.size, x.depth]
theorem encWn_len (x : Wn) : (encWn x).length ≤ 33 := intsB_len [x.part, x.start, x.len]
theorem encLv_len (x : Lv) : (encLv x).length ≤ 22 := intsB_len [x.freq, x.power]
theorem encNp_len (x : Np) : (encNp x).length ≤ 33 := intsB_len [x.power, x.enter, x.wake]
theorem encCh_len (x : Ch) : (encCh x).length ≤ 44 := intsB_len [x.fr.part, x.fr.port, x.to.part, x.to.port]
/-- the writer's box: a block that holds its pointer, and that it does not own. -/
def Cap (g p : Nat) (T : Nat → Prop) (W : World) : Prop := Blk W p 59 #[.pointer (some ⟨g, 0, none⟩)] ∧ ¬ T p
theorem grw_no {T T' : Nat → Prop} {W W' : World} {b : Nat} (h : Grw T T' W W') (hb : b < W.heap.size) (hn : ¬ T b) : ¬ T' b := fun h' => (h b h').1.elim hn (fun h => by omega)
theorem cap_stq (g p : Nat) : Stq (Cap g p) := fun _ _ _ _ ⟨h1, h2⟩ hf hg => ⟨h1.fr hf h2, grw_no hg h1.lt h2⟩
theorem true_stq : Stq (fun _ _ => True) := fun _ _ _ _ _ _ _ => trivial
end Go.Proofs.YtahjnonkhbpnpaaGreat
/- The document's numbers, truths and lists as bytes, of longer rows. -/
namespace Go.Proofs.YtahjnonkhbpnpaaGreat
open Go.RowKit
/-- append(out, b...): b is not empty; out is owned; of longer rows. -/
theorem wpList_appL {ops : Array Oper} {rest : List Oper} {o : Oper} {a : Act} {Q : Exit → Act → World → Prop} (w : World) (hgd : o.guard = none) (s x : Operand)
    (ho : o.op = .call { callee := .builtin .append, args := #[s, x], argTypes := #[36, 36] })
    (base : Nat) (v : Value) (n : Nat) (l1 : List UInt8) (hs : a.eval s = v) (hown : w.ownsRow base 5 1 v n (l1.map bv))
    (A : Option Addr) (m c : Nat) (l2 : List UInt8) (hsrc : SlB w A m c l2) (hm : 0 < m) (hx : a.eval x = .slice A m c) (hn : n + m ≤ 100000000) (hbase : base ≤ w.heap.size)
    (h : ∀ v' w', w'.ownsRow base 5 1 v' (n + m) ((l1 ++ l2).map bv) → Fr (fun k => v.ownBlock = some k) w w' → (v'.ownBlock = v.ownBlock ∨ v'.ownBlock = some w.heap.size) → wpList Tryz.prog ops Q rest (a.put o.dst v') w') :
    wpList Tryz.prog ops Q (o :: rest) a w := by
  obtain ⟨i0, hi0, hz0, hz1, hz2⟩ := info_parts byte_info
  obtain ⟨b, of, rfl, hb, hc⟩ := hsrc.1.at_ hm
  have hl2 := hsrc.2
  refine wpList_append_own_at w hgd s x 36 ho base 5 i0 _ 1 1 Tryz.underlying36 hi0 hz0 hz1 hz2 rfl (by decide) v n _ hs hown ⟨b, of, none⟩ m c (l2.map bv) hx (by simp; omega) (fun j u hu => by rw [add_none]; exact hc j u hu) (bv_cell l2) (by unfold maxLen; omega) (by omega) hbase ?_
  intro v' w' h1 h2 _ h4
  exact h v' w' (by rw [List.map_append]; exact h1) ((Fr.refl _ w).grown h2 (fun k _ hk => hk)) h4
/-- the same as one operation of a region that draws. -/
theorem wp_appL {o : Oper} {a : Act} {K : Act → World → Prop} {Q : Exit → Act → World → Prop} (w : World) (s x : Operand)
    (ho : o.op = .call { callee := .builtin .append, args := #[s, x], argTypes := #[36, 36] })
    (base : Nat) (v : Value) (n : Nat) (l1 : List UInt8) (hs : a.eval s = v) (hown : w.ownsRow base 5 1 v n (l1.map bv))
    (A : Option Addr) (m c : Nat) (l2 : List UInt8) (hsrc : SlB w A m c l2) (hm : 0 < m) (hx : a.eval x = .slice A m c) (hn : n + m ≤ 100000000) (hbase : base ≤ w.heap.size)
    (h : ∀ g cap w', w'.ownsRow base 5 1 (.slice (some ⟨g, 0, none⟩) (n + m) cap) (n + m) ((l1 ++ l2).map bv) → Fr (fun k => v.ownBlock = some k) w w' → (v.ownBlock = some g ∨ g = w.heap.size) → K (a.put o.dst (.slice (some ⟨g, 0, none⟩) (n + m) cap)) w') : o.wp Tryz.prog a w K Q := by
  obtain ⟨i0, hi0, hz0, hz1, hz2⟩ := info_parts byte_info
  obtain ⟨b, of, rfl, hb, hc⟩ := hsrc.1.at_ hm
  have hl2 := hsrc.2
  refine wp_append_lies w s x 36 ho base 5 i0 _ 1 1 Tryz.underlying36 hi0 hz0 hz1 hz2 rfl (by decide) v n _ hs hown ⟨b, of, none⟩ m c (l2.map bv) hx (by simp; omega) (fun j u hu => by rw [add_none]; exact hc j u hu) (bv_cell l2) hm (by unfold maxLen; omega) (by omega) hbase _ rfl ?_
  intro g cap w' h1 h2 h3 _
  exact h g cap w' (by rw [List.map_append]; exact h1) ((Fr.refl _ w).grown h2 (fun k _ hk => hk)) h3
theorem own_lits {w : World} {base : Nat} {e : TypeId} {sz : Nat} {v : Value} {n : Nat} {xs : List Value} (h : w.ownsRow base e sz v n xs) (hn : 0 < n) : ∃ g c, v = .slice (some ⟨g, 0, none⟩) n c ∧ base ≤ g := by
  rcases h.2 with ⟨_, h0⟩ | ⟨g, c, cur, hv, hb, _⟩
  · omega
  · exact ⟨g, c, hv, hb⟩
/-- the same, the bytes by a name of their own. -/
theorem wpList_appM {ops : Array Oper} {rest : List Oper} {o : Oper} {a : Act} {Q : Exit → Act → World → Prop} (w : World) (hgd : o.guard = none) (s x : Operand)
    (ho : o.op = .call { callee := .builtin .append, args := #[s, x], argTypes := #[36, 36] })
    (base : Nat) (v : Value) (l1 : List UInt8) (hs : a.eval s = v) (hown : w.ownsRow base 5 1 v l1.length (l1.map bv))
    (A : Option Addr) (m c : Nat) (l2 : List UInt8) (hsrc : SlB w A m c l2) (hm : 0 < m) (hx : a.eval x = .slice A m c) (hn : l1.length + m ≤ 100000000) (hbase : base ≤ w.heap.size)
    (h : ∀ g cap w' L', Hid (L' = l1 ++ l2) → L'.length ≤ l1.length + m → w'.ownsRow base 5 1 (.slice (some ⟨g, 0, none⟩) L'.length cap) L'.length (L'.map bv) → Fr (fun k => v.ownBlock = some k) w w' → (v.ownBlock = some g ∨ g = w.heap.size) → wpList Tryz.prog ops Q rest (a.put o.dst (.slice (some ⟨g, 0, none⟩) L'.length cap)) w') :
    wpList Tryz.prog ops Q (o :: rest) a w := by
  have hl2 := hsrc.2
  refine wpList_appL w hgd s x ho base v l1.length l1 hs hown A m c l2 hsrc hm hx hn hbase fun v' w' h1 h2 h3 => ?_
  have hz : l1.length + m = (l1 ++ l2).length := by rw [List.length_append]; omega
  rw [hz] at h1
  obtain ⟨g, c', hv, -⟩ := own_lits h1 (by rw [List.length_append]; omega)
  rw [hv] at h1 h3 ⊢
  exact h g c' w' _ rfl (Nat.le_of_eq hz.symm) h1 h2 (h3.elim (fun e => .inl e.symm) (fun e => .inr (Option.some.inj e)))
theorem wp_appM {o : Oper} {a : Act} {K : Act → World → Prop} {Q : Exit → Act → World → Prop} (w : World) (s x : Operand)
    (ho : o.op = .call { callee := .builtin .append, args := #[s, x], argTypes := #[36, 36] })
    (base : Nat) (v : Value) (l1 : List UInt8) (hs : a.eval s = v) (hown : w.ownsRow base 5 1 v l1.length (l1.map bv))
    (A : Option Addr) (m c : Nat) (l2 : List UInt8) (hsrc : SlB w A m c l2) (hm : 0 < m) (hx : a.eval x = .slice A m c) (hn : l1.length + m ≤ 100000000) (hbase : base ≤ w.heap.size)
    (h : ∀ g cap w' L', Hid (L' = l1 ++ l2) → L'.length ≤ l1.length + m → w'.ownsRow base 5 1 (.slice (some ⟨g, 0, none⟩) L'.length cap) L'.length (L'.map bv) → Fr (fun k => v.ownBlock = some k) w w' → (v.ownBlock = some g ∨ g = w.heap.size) → K (a.put o.dst (.slice (some ⟨g, 0, none⟩) L'.length cap)) w') : o.wp Tryz.prog a w K Q := by
  have hl2 := hsrc.2
  refine wp_appL w s x ho base v l1.length l1 hs hown A m c l2 hsrc hm hx hn hbase fun g cap w' h1 h2 h3 => ?_
  have hz : l1.length + m = (l1 ++ l2).length := by rw [List.length_append]; omega
  rw [hz] at h1 ⊢
  exact h g cap w' _ rfl (Nat.le_of_eq hz.symm) h1 h2 h3
theorem vbool_len (b : Bool) : (vbool b).length = 1 := rfl
theorem refBool_any {w : World} (b : Bool) :
    Calls Tryz.prog 81 #[.bool b] w fun e w' => ∃ A c, e = .returned (.slice A 1 c) ∧ SlB w' A 1 c (vbool b) ∧ Below w.heap.size w w' := by
  cases b with
  | true =>
    have hb := Blk.new w 5 #[.int .u8 1]
    go_enter Tryz.func81, Tryz.ntmps81
    go_wp2_with fail
    go_ret
    exact ⟨_, _, rfl, SlB.of_blk hb (vbool true) rfl (by decide), (Below.refl _ _).alloc (Nat.le_refl _) _⟩
  | false =>
    have hb := Blk.new w 5 #[.int .u8 0]
    go_enter Tryz.func81, Tryz.ntmps81
    go_wp2_with fail
    go_ret
    exact ⟨_, _, rfl, SlB.of_blk hb (vbool false) rfl (by decide), (Below.refl _ _).alloc (Nat.le_refl _) _⟩
theorem lst_ints (l : List Int) : lst vint l = vint l.length ++ intsB l := rfl
set_option maxRecDepth 100000 in
theorem refInts_any {w : World} {A : Option Addr} {n c : Nat} {l : List Int} (h : SlI w A n c l) (hn : n ≤ 1000) :
    Calls Tryz.prog 28 #[.slice A n c] w fun e w' => ∃ v, e = .returned v ∧ w'.ownsRow w.heap.size 5 1 v (lst vint l).length ((lst vint l).map bv) ∧ Below w.heap.size w w' := by
  have hln := h.2.1
  have hv := vint_len (n : Int)
  have HV : Hid (lst vint l = vint n ++ intsB l) := by unfold Hid; rw [lst_ints, hln]
  go_enter Tryz.func28, Tryz.ntmps28
  go_wp2_with fail
  refine (refInt_any (n := (n : Int)) (by unfold i64; omega)).mono ?_
  rintro e w2 ⟨v2, rfl, hown2, hb2⟩
  go_wp2_with fail
  go_loopw [3, 4] (fun v i wr => ∃ k : Nat, k ≤ n ∧ i = .int .i64 k ∧ wr.ownsRow w.heap.size 5 1 v (vint n ++ intsB (l.take k)).length ((vint n ++ intsB (l.take k)).map bv) ∧ Below w.heap.size w wr) (fun _ i _ => n - (intOf i).toNat)
  case atStart => exact ⟨0, by omega, rfl, by simpa [intsB] using hown2, hb2⟩
  case round =>
    obtain ⟨k, hk, rfl, hown, hbw⟩ := hrel
    have hzr := hbw.size
    by_cases hlt : k < n
    · obtain ⟨b, o, rfl, hb, hck⟩ := (h.keep hbw).at_ hlt
      have hi := h.rng k
      have hil := vint_len (at0 l k)
      have HT := Lib.hid (intsB_take l (show k < l.length by omega))
      have hll := intsB_len (l.take k)
      rw [List.length_take] at hll
      generalize at0 l k = x at hck hi hil HT
      go_wp2_with fail
      refine (refInt_any hi).mono ?_
      rintro ee w2 ⟨v2, rfl, hown2, hb2⟩
      obtain ⟨A2, c2, rfl, hs2, -⟩ := SlB.of_own hown2
      have hownA := own_below hown hb2
      have hz2 := hb2.size
      have hlen : (vint (n : Int) ++ intsB (l.take k)).length ≤ 900000 := by rw [List.length_append]; omega
      go_wp2_with (at_builtin; refine wpList_appL w2 (by rfl) _ _ (by rfl) w.heap.size _ _ _ (by rfl) hownA A2 _ c2 _ hs2 hil.1 (by rfl) (by omega) (by omega) ?_; intro v' w3 hown3 hf3 _)
      exact ⟨⟨k + 1, by omega, by go_num, by rw [HT.out, ← List.append_assoc, List.length_append]; exact hown3, (hbw.trans (hb2.mono hzr)).trans (hf3.below (fun g hg h => own_ne hown hg h.symm) (by omega))⟩, by simp [intOf]; omega⟩
    · obtain rfl : k = n := by omega
      have HT : Hid (l.take k = l) := List.take_of_length_le (by omega)
      rw [HT.out] at hown
      go_wp2_with fail
      go_ret
      exact ⟨_, rfl, by rw [HV.out]; exact hown, hbw⟩
set_option maxRecDepth 100000 in
/-- numbers, one behind the other. -/
theorem refRow_any {w : World} {A : Option Addr} {n c : Nat} {l : List Int} (h : SlI w A n c l) (hn : n ≤ 1000) :
    Calls Tryz.prog 27 #[.slice A n c] w fun e w' => ∃ v, e = .returned v ∧ w'.ownsRow w.heap.size 5 1 v (intsB l).length ((intsB l).map bv) ∧ Below w.heap.size w w' := by
  have hln := h.2.1
  go_enter Tryz.func27, Tryz.ntmps27
  go_wp2_with fail
  go_loopw [3, 4] (fun v i wr => ∃ k : Nat, k ≤ n ∧ i = .int .i64 k ∧ wr.ownsRow w.heap.size 5 1 v (intsB (l.take k)).length ((intsB (l.take k)).map bv) ∧ Below w.heap.size w wr) (fun _ i _ => n - (intOf i).toNat)
  case atStart => exact ⟨0, by omega, rfl, World.ownsRow_nil _ _ _ _, Below.refl _ _⟩
  case round =>
    obtain ⟨k, hk, rfl, hown, hbw⟩ := hrel
    have hzr := hbw.size
    by_cases hlt : k < n
    · obtain ⟨b, o, rfl, hb, hck⟩ := (h.keep hbw).at_ hlt
      have hi := h.rng k
      have hil := vint_len (at0 l k)
      have HT := Lib.hid (intsB_take l (show k < l.length by omega))
      have hll := intsB_len (l.take k)
      rw [List.length_take] at hll
      generalize at0 l k = x at hck hi hil HT
      go_wp2_with fail
      refine (refInt_any hi).mono ?_
      rintro ee w2 ⟨v2, rfl, hown2, hb2⟩
      obtain ⟨A2, c2, rfl, hs2, -⟩ := SlB.of_own hown2
      have hownA := own_below hown hb2
      have hz2 := hb2.size
      have hlen : (intsB (l.take k)).length ≤ 900000 := by omega
      go_wp2_with (at_builtin; refine wpList_appL w2 (by rfl) _ _ (by rfl) w.heap.size _ _ _ (by rfl) hownA A2 _ c2 _ hs2 hil.1 (by rfl) (by omega) (by omega) ?_; intro v' w3 hown3 hf3 _)
      exact ⟨⟨k + 1, by omega, by go_num, by rw [HT.out, List.length_append]; exact hown3, (hbw.trans (hb2.mono hzr)).trans (hf3.below (fun g hg h => own_ne hown hg h.symm) (by omega))⟩, by simp [intOf]; omega⟩
    · obtain rfl : k = n := by omega
      have HT : Hid (l.take k = l) := List.take_of_length_le (by omega)
      rw [HT.out] at hown
      go_wp2_with fail
      go_ret
      exact ⟨_, rfl, hown, hbw⟩
end Go.Proofs.YtahjnonkhbpnpaaGreat
/- What writes one element of each of conf's lists. Printed by wip/gen_cwelem.py. -/
namespace Go.Proofs.YtahjnonkhbpnpaaGreat
open Go.RowKit
set_option maxRecDepth 100000 in
theorem one_Rg {wa : World} {g pb : Nat} (x : Rg) (hx : x.ok wa) : OneW wa g (Cap g pb) 58 #[.agg #[.int .i64 x.base, .int .i64 x.size, .bool x.wr], .pointer (some ⟨pb, 0, none⟩)] 60000000 (encRg x) false := by
  intro T W l lg hq hw hB hl
  obtain ⟨hp, hpT⟩ := hq
  have hbl := (Below.refl W.heap.size W).alloc (Nat.le_refl _) (.cells #[.int .i64 x.base, .int .i64 x.size, .bool x.wr] 124)
  have kx0 := Blk.new W 124 #[.int .i64 x.base, .int .i64 x.size, .bool x.wr]
  have kp0 := hp.keep hbl
  have hw0 := hw.keep hbl
  have hB0 := hB.trans (hbl.mono hB.size)
  have nx0 : ¬ T W.heap.size := fun h => by have := hw.bnd _ h; omega
  have np0 := hpT
  have F0 : Fr T W (W.alloc (.cells #[.int .i64 x.base, .int .i64 x.size, .bool x.wr] 124)) := Fr.of_below hbl T
  have G0 : Grw T T W (W.alloc (.cells #[.int .i64 x.base, .int .i64 x.size, .bool x.wr] 124)) := fun b hb => ⟨.inl hb, Nat.lt_of_lt_of_le (hw.bnd b hb) hbl.size⟩
  have i_x_base : i64 x.base := hx.1
  have i_x_size : i64 x.size := hx.2.1
  go_enter Tryz.func58, Tryz.ntmps58
  go_upto_region 1 with fail
  generalize W.alloc (.cells #[.int .i64 x.base, .int .i64 x.size, .bool x.wr] 124) = W0 at kx0 kp0 hw0 hB0 F0 G0 ⊢
  generalize hbx : W.heap.size = bx at kx0 nx0 ⊢
  clear hbx hbl hp hw hB
  have p0 : W0.cell? ⟨pb, 0, none⟩ = some (.pointer (some ⟨g, 0, none⟩)) := kp0.cell 0
  have lp0 := kp0.lt
  have lx0 := kx0.lt
  have lg0 := hw0.lt
  have c0 : W0.cell? ⟨bx, 0, none⟩ = some (.int .i64 x.base) := kx0.cell 0
  have c1 : W0.cell? ⟨bx, 1, none⟩ = some (.int .i64 x.size) := kx0.cell 1
  have hbl0 := (Below.refl W0.heap.size W0).alloc (Nat.le_refl _) (.cells #[.int .i64 x.base, .int .i64 x.size] 3)
  have hsl0 := SlI.of_blk (Blk.new W0 3 #[.int .i64 x.base, .int .i64 x.size]) [x.base, x.size] rfl (show 2 ≤ 1000000 by omega) (fun z hz => by
    simp only [List.mem_cons, List.mem_nil_iff, or_false] at hz
    rcases hz with rfl | rfl <;> assumption)
  go_wp2_with fail
  refine (intsC_any (hw0.keep hbl0) (Nat.le_trans hB0.size hbl0.size) (by (try simp only [List.length_append]); omega) hsl0 (show 2 ≤ 1000 by omega) (fun b o _ e h => by cases e; have := hw0.bnd _ h; omega)).mono ?_
  rintro e W1 ⟨rfl, T1, hw1, hf1, hg1⟩
  clear hsl0
  have il0 : (intsB [x.base, x.size]).length ≤ 22 := intsB_len [x.base, x.size]
  replace hf1 : Fr T W0 W1 := (Fr.of_below hbl0 T).trans hf1
  replace hg1 : Grw T T1 W0 W1 := hg1.alloc_left hbl0.size
  have kp1 := kp0.fr hf1 np0
  have kx1 := kx0.fr hf1 nx0
  have np1 := grw_no hg1 lp0 np0
  have nx1 := grw_no hg1 lx0 nx0
  have hB1 := hB0.trans (hf1.below (fun b hb h => by have := hw0.lo b h; omega) hB0.size)
  have F1 : Fr T W W1 := F0.grw G0 hf1
  have G1 : Grw T T1 W W1 := G0.trans F0.size hg1
  clear p0 lp0 lx0 lg0 hf1 hg1 kp0 kx0 np0 nx0 F0 G0 hw0 c0 c1
  have p0 : W1.cell? ⟨pb, 0, none⟩ = some (.pointer (some ⟨g, 0, none⟩)) := kp1.cell 0
  have lp1 := kp1.lt
  have lx1 := kx1.lt
  have lg1 := hw1.lt
  have c2 : W1.cell? ⟨bx, 2, none⟩ = some (.bool x.wr) := kx1.cell 2
  go_wp2_with fail
  refine wp_region_fen (fun _ => False) [(5, 2)] (by kernel_rfl) (by kernel_rfl) ?_
  simp only [wpSegsF, List.take, List.drop]
  repeat (go_big_quiet_step (fail))
  refine wpQuiet_nil (wpHeadF_bar rfl (fun K' hK' => ?_))
  go_wp2_with fail
  refine (writeBoolC_any (hw1.keep (Below.drew (Below.refl _ _))) hB1.size (by (try simp only [List.length_append]); omega) x.wr).mono ?_
  rintro e W2 ⟨rfl, T2, hw2, hf2, hg2⟩
  replace hf2 : Fr T1 W1 W2 := (Fr.of_below (Below.drew (Below.refl _ W1)) T1).trans hf2
  refine hK' _ _ (fun _ => False) rfl ?_
  clear hK' K'
  try simp only [wpSegsF]
  repeat (go_big_quiet_step (fail))
  refine wpQuiet_nil ?_
  have il1 : (vbool x.wr).length ≤ 1 := Nat.le_refl _
  have kp2 := kp1.fr hf2 np1
  have kx2 := kx1.fr hf2 nx1
  have np2 := grw_no hg2 lp1 np1
  have nx2 := grw_no hg2 lx1 nx1
  have hB2 := hB1.trans (hf2.below (fun b hb h => by have := hw1.lo b h; omega) hB1.size)
  have F2 : Fr T W W2 := F1.grw G1 hf2
  have G2 : Grw T T2 W W2 := G1.trans F1.size hg2
  clear p0 lp1 lx1 lg1 hf2 hg2 kp1 kx1 np1 nx1 F1 G1 hw1 c2
  go_wp2_with fail
  go_end0
  refine ⟨rfl, T2, ?_, F2, G2⟩
  rw [Bool.or_false]
  unfold encRg
  try simp only [← List.append_assoc]
  exact hw2
set_option maxRecDepth 100000 in
theorem one_Pc {wa : World} {g pb : Nat} (x : Pc) (hx : x.ok wa) : OneW wa g (Cap g pb) 61 #[.agg #[.int .i64 x.prio, .int .i64 x.per, .int .i64 x.cost], .pointer (some ⟨pb, 0, none⟩)] 60000000 (encPc x) false := by
  intro T W l lg hq hw hB hl
  obtain ⟨hp, hpT⟩ := hq
  have hbl := (Below.refl W.heap.size W).alloc (Nat.le_refl _) (.cells #[.int .i64 x.prio, .int .i64 x.per, .int .i64 x.cost] 129)
  have kx0 := Blk.new W 129 #[.int .i64 x.prio, .int .i64 x.per, .int .i64 x.cost]
  have kp0 := hp.keep hbl
  have hw0 := hw.keep hbl
  have hB0 := hB.trans (hbl.mono hB.size)
  have nx0 : ¬ T W.heap.size := fun h => by have := hw.bnd _ h; omega
  have np0 := hpT
  have F0 : Fr T W (W.alloc (.cells #[.int .i64 x.prio, .int .i64 x.per, .int .i64 x.cost] 129)) := Fr.of_below hbl T
  have G0 : Grw T T W (W.alloc (.cells #[.int .i64 x.prio, .int .i64 x.per, .int .i64 x.cost] 129)) := fun b hb => ⟨.inl hb, Nat.lt_of_lt_of_le (hw.bnd b hb) hbl.size⟩
  have i_x_prio : i64 x.prio := hx.1
  have i_x_per : i64 x.per := hx.2.1
  have i_x_cost : i64 x.cost := hx.2.2
  go_enter Tryz.func61, Tryz.ntmps61
  go_upto_region 1 with fail
  generalize W.alloc (.cells #[.int .i64 x.prio, .int .i64 x.per, .int .i64 x.cost] 129) = W0 at kx0 kp0 hw0 hB0 F0 G0 ⊢
  generalize hbx : W.heap.size = bx at kx0 nx0 ⊢
  clear hbx hbl hp hw hB
  have p0 : W0.cell? ⟨pb, 0, none⟩ = some (.pointer (some ⟨g, 0, none⟩)) := kp0.cell 0
  have lp0 := kp0.lt
  have lx0 := kx0.lt
  have lg0 := hw0.lt
  have c0 : W0.cell? ⟨bx, 0, none⟩ = some (.int .i64 x.prio) := kx0.cell 0
  have c1 : W0.cell? ⟨bx, 1, none⟩ = some (.int .i64 x.per) := kx0.cell 1
  have c2 : W0.cell? ⟨bx, 2, none⟩ = some (.int .i64 x.cost) := kx0.cell 2
  have hbl0 := (Below.refl W0.heap.size W0).alloc (Nat.le_refl _) (.cells #[.int .i64 x.prio, .int .i64 x.per, .int .i64 x.cost] 3)
  have hsl0 := SlI.of_blk (Blk.new W0 3 #[.int .i64 x.prio, .int .i64 x.per, .int .i64 x.cost]) [x.prio, x.per, x.cost] rfl (show 3 ≤ 1000000 by omega) (fun z hz => by
    simp only [List.mem_cons, List.mem_nil_iff, or_false] at hz
    rcases hz with rfl | rfl | rfl <;> assumption)
  go_wp2_with fail
  refine (intsC_any (hw0.keep hbl0) (Nat.le_trans hB0.size hbl0.size) (by (try simp only [List.length_append]); omega) hsl0 (show 3 ≤ 1000 by omega) (fun b o _ e h => by cases e; have := hw0.bnd _ h; omega)).mono ?_
  rintro e W1 ⟨rfl, T1, hw1, hf1, hg1⟩
  clear hsl0
  have il0 : (intsB [x.prio, x.per, x.cost]).length ≤ 33 := intsB_len [x.prio, x.per, x.cost]
  replace hf1 : Fr T W0 W1 := (Fr.of_below hbl0 T).trans hf1
  replace hg1 : Grw T T1 W0 W1 := hg1.alloc_left hbl0.size
  have kp1 := kp0.fr hf1 np0
  have kx1 := kx0.fr hf1 nx0
  have np1 := grw_no hg1 lp0 np0
  have nx1 := grw_no hg1 lx0 nx0
  have hB1 := hB0.trans (hf1.below (fun b hb h => by have := hw0.lo b h; omega) hB0.size)
  have F1 : Fr T W W1 := F0.grw G0 hf1
  have G1 : Grw T T1 W W1 := G0.trans F0.size hg1
  clear p0 lp0 lx0 lg0 hf1 hg1 kp0 kx0 np0 nx0 F0 G0 hw0 c0 c1 c2
  go_wp2_with fail
  go_end0
  refine ⟨rfl, T1, ?_, F1, G1⟩
  rw [Bool.or_false]
  unfold encPc
  try simp only [← List.append_assoc]
  exact hw1
set_option maxRecDepth 100000 in
theorem one_Po {wa : World} {g pb : Nat} (x : Po) (hx : x.ok wa) : OneW wa g (Cap g pb) 63 #[.agg #[.bool x.q, .bool x.inn, .int .i64 x.size, .int .i64 x.depth], .pointer (some ⟨pb, 0, none⟩)] 60000000 (encPo x) false := by
  intro T W l lg hq hw hB hl
  obtain ⟨hp, hpT⟩ := hq
  have hbl := (Below.refl W.heap.size W).alloc (Nat.le_refl _) (.cells #[.bool x.q, .bool x.inn, .int .i64 x.size, .int .i64 x.depth] 133)
  have kx0 := Blk.new W 133 #[.bool x.q, .bool x.inn, .int .i64 x.size, .int .i64 x.depth]
  have kp0 := hp.keep hbl
  have hw0 := hw.keep hbl
  have hB0 := hB.trans (hbl.mono hB.size)
  have nx0 : ¬ T W.heap.size := fun h => by have := hw.bnd _ h; omega
  have np0 := hpT
  have F0 : Fr T W (W.alloc (.cells #[.bool x.q, .bool x.inn, .int .i64 x.size, .int .i64 x.depth] 133)) := Fr.of_below hbl T
  have G0 : Grw T T W (W.alloc (.cells #[.bool x.q, .bool x.inn, .int .i64 x.size, .int .i64 x.depth] 133)) := fun b hb => ⟨.inl hb, Nat.lt_of_lt_of_le (hw.bnd b hb) hbl.size⟩
  have i_x_size : i64 x.size := hx.2.2.1
  have i_x_depth : i64 x.depth := hx.2.2.2
  go_enter Tryz.func63, Tryz.ntmps63
  go_upto_region 1 with fail
  generalize W.alloc (.cells #[.bool x.q, .bool x.inn, .int .i64 x.size, .int .i64 x.depth] 133) = W0 at kx0 kp0 hw0 hB0 F0 G0 ⊢
  generalize hbx : W.heap.size = bx at kx0 nx0 ⊢
  clear hbx hbl hp hw hB
  have p0 : W0.cell? ⟨pb, 0, none⟩ = some (.pointer (some ⟨g, 0, none⟩)) := kp0.cell 0
  have lp0 := kp0.lt
  have lx0 := kx0.lt
  have lg0 := hw0.lt
  have c0 : W0.cell? ⟨bx, 0, none⟩ = some (.bool x.q) := kx0.cell 0
  go_wp2_with fail
  refine wp_region_fen (fun _ => False) [(5, 2)] (by kernel_rfl) (by kernel_rfl) ?_
  simp only [wpSegsF, List.take, List.drop]
  repeat (go_big_quiet_step (fail))
  refine wpQuiet_nil (wpHeadF_bar rfl (fun K' hK' => ?_))
  go_wp2_with fail
  refine (writeBoolC_any (hw0.keep (Below.drew (Below.refl _ _))) hB0.size (by (try simp only [List.length_append]); omega) x.q).mono ?_
  rintro e W1 ⟨rfl, T1, hw1, hf1, hg1⟩
  replace hf1 : Fr T W0 W1 := (Fr.of_below (Below.drew (Below.refl _ W0)) T).trans hf1
  refine hK' _ _ (fun _ => False) rfl ?_
  clear hK' K'
  try simp only [wpSegsF]
  repeat (go_big_quiet_step (fail))
  refine wpQuiet_nil ?_
  have il0 : (vbool x.q).length ≤ 1 := Nat.le_refl _
  have kp1 := kp0.fr hf1 np0
  have kx1 := kx0.fr hf1 nx0
  have np1 := grw_no hg1 lp0 np0
  have nx1 := grw_no hg1 lx0 nx0
  have hB1 := hB0.trans (hf1.below (fun b hb h => by have := hw0.lo b h; omega) hB0.size)
  have F1 : Fr T W W1 := F0.grw G0 hf1
  have G1 : Grw T T1 W W1 := G0.trans F0.size hg1
  clear p0 lp0 lx0 lg0 hf1 hg1 kp0 kx0 np0 nx0 F0 G0 hw0 c0
  have p0 : W1.cell? ⟨pb, 0, none⟩ = some (.pointer (some ⟨g, 0, none⟩)) := kp1.cell 0
  have lp1 := kp1.lt
  have lx1 := kx1.lt
  have lg1 := hw1.lt
  have c1 : W1.cell? ⟨bx, 1, none⟩ = some (.bool x.inn) := kx1.cell 1
  go_wp2_with fail
  refine wp_region_fen (fun _ => False) [(5, 2)] (by kernel_rfl) (by kernel_rfl) ?_
  simp only [wpSegsF, List.take, List.drop]
  repeat (go_big_quiet_step (fail))
  refine wpQuiet_nil (wpHeadF_bar rfl (fun K' hK' => ?_))
  go_wp2_with fail
  refine (writeBoolC_any (hw1.keep (Below.drew (Below.refl _ _))) hB1.size (by (try simp only [List.length_append]); omega) x.inn).mono ?_
  rintro e W2 ⟨rfl, T2, hw2, hf2, hg2⟩
  replace hf2 : Fr T1 W1 W2 := (Fr.of_below (Below.drew (Below.refl _ W1)) T1).trans hf2
  refine hK' _ _ (fun _ => False) rfl ?_
  clear hK' K'
  try simp only [wpSegsF]
  repeat (go_big_quiet_step (fail))
  refine wpQuiet_nil ?_
  have il1 : (vbool x.inn).length ≤ 1 := Nat.le_refl _
  have kp2 := kp1.fr hf2 np1
  have kx2 := kx1.fr hf2 nx1
  have np2 := grw_no hg2 lp1 np1
  have nx2 := grw_no hg2 lx1 nx1
  have hB2 := hB1.trans (hf2.below (fun b hb h => by have := hw1.lo b h; omega) hB1.size)
  have F2 : Fr T W W2 := F1.grw G1 hf2
  have G2 : Grw T T2 W W2 := G1.trans F1.size hg2
  clear p0 lp1 lx1 lg1 hf2 hg2 kp1 kx1 np1 nx1 F1 G1 hw1 c1
  have p0 : W2.cell? ⟨pb, 0, none⟩ = some (.pointer (some ⟨g, 0, none⟩)) := kp2.cell 0
  have lp2 := kp2.lt
  have lx2 := kx2.lt
  have lg2 := hw2.lt
  have c2 : W2.cell? ⟨bx, 2, none⟩ = some (.int .i64 x.size) := kx2.cell 2
  have c3 : W2.cell? ⟨bx, 3, none⟩ = some (.int .i64 x.depth) := kx2.cell 3
  have hbl2 := (Below.refl W2.heap.size W2).alloc (Nat.le_refl _) (.cells #[.int .i64 x.size, .int .i64 x.depth] 3)
  have hsl2 := SlI.of_blk (Blk.new W2 3 #[.int .i64 x.size, .int .i64 x.depth]) [x.size, x.depth] rfl (show 2 ≤ 1000000 by omega) (fun z hz => by
    simp only [List.mem_cons, List.mem_nil_iff, or_false] at hz
    rcases hz with rfl | rfl <;> assumption)
  go_wp2_with fail
  refine (intsC_any (hw2.keep hbl2) (Nat.le_trans hB2.size hbl2.size) (by (try simp only [List.length_append]); omega) hsl2 (show 2 ≤ 1000 by omega) (fun b o _ e h => by cases e; have := hw2.bnd _ h; omega)).mono ?_
  rintro e W3 ⟨rfl, T3, hw3, hf3, hg3⟩
  clear hsl2
  have il2 : (intsB [x.size, x.depth]).length ≤ 22 := intsB_len [x.size, x.depth]
  replace hf3 : Fr T2 W2 W3 := (Fr.of_below hbl2 T2).trans hf3
  replace hg3 : Grw T2 T3 W2 W3 := hg3.alloc_left hbl2.size
  have kp3 := kp2.fr hf3 np2
  have kx3 := kx2.fr hf3 nx2
  have np3 := grw_no hg3 lp2 np2
  have nx3 := grw_no hg3 lx2 nx2
  have hB3 := hB2.trans (hf3.below (fun b hb h => by have := hw2.lo b h; omega) hB2.size)
  have F3 : Fr T W W3 := F2.grw G2 hf3
  have G3 : Grw T T3 W W3 := G2.trans F2.size hg3
  clear p0 lp2 lx2 lg2 hf3 hg3 kp2 kx2 np2 nx2 F2 G2 hw2 c2 c3
  go_wp2_with fail
  go_end0
  refine ⟨rfl, T3, ?_, F3, G3⟩
  rw [Bool.or_false]
  unfold encPo
  try simp only [← List.append_assoc]
  exact hw3
set_option maxRecDepth 100000 in
theorem one_Sm {wa : World} {g pb : Nat} (x : Sm) (hx : x.ok wa) : OneW wa g (Cap g pb) 65 #[.agg #[.int .i64 x.first, .int .i64 x.most], .pointer (some ⟨pb, 0, none⟩)] 60000000 (encSm x) false := by
  intro T W l lg hq hw hB hl
  obtain ⟨hp, hpT⟩ := hq
  have hbl := (Below.refl W.heap.size W).alloc (Nat.le_refl _) (.cells #[.int .i64 x.first, .int .i64 x.most] 137)
  have kx0 := Blk.new W 137 #[.int .i64 x.first, .int .i64 x.most]
  have kp0 := hp.keep hbl
  have hw0 := hw.keep hbl
  have hB0 := hB.trans (hbl.mono hB.size)
  have nx0 : ¬ T W.heap.size := fun h => by have := hw.bnd _ h; omega
  have np0 := hpT
  have F0 : Fr T W (W.alloc (.cells #[.int .i64 x.first, .int .i64 x.most] 137)) := Fr.of_below hbl T
  have G0 : Grw T T W (W.alloc (.cells #[.int .i64 x.first, .int .i64 x.most] 137)) := fun b hb => ⟨.inl hb, Nat.lt_of_lt_of_le (hw.bnd b hb) hbl.size⟩
  have i_x_first : i64 x.first := hx.1
  have i_x_most : i64 x.most := hx.2
  go_enter Tryz.func65, Tryz.ntmps65
  go_upto_region 1 with fail
  generalize W.alloc (.cells #[.int .i64 x.first, .int .i64 x.most] 137) = W0 at kx0 kp0 hw0 hB0 F0 G0 ⊢
  generalize hbx : W.heap.size = bx at kx0 nx0 ⊢
  clear hbx hbl hp hw hB
  have p0 : W0.cell? ⟨pb, 0, none⟩ = some (.pointer (some ⟨g, 0, none⟩)) := kp0.cell 0
  have lp0 := kp0.lt
  have lx0 := kx0.lt
  have lg0 := hw0.lt
  have c0 : W0.cell? ⟨bx, 0, none⟩ = some (.int .i64 x.first) := kx0.cell 0
  have c1 : W0.cell? ⟨bx, 1, none⟩ = some (.int .i64 x.most) := kx0.cell 1
  have hbl0 := (Below.refl W0.heap.size W0).alloc (Nat.le_refl _) (.cells #[.int .i64 x.first, .int .i64 x.most] 3)
  have hsl0 := SlI.of_blk (Blk.new W0 3 #[.int .i64 x.first, .int .i64 x.most]) [x.first, x.most] rfl (show 2 ≤ 1000000 by omega) (fun z hz => by
    simp only [List.mem_cons, List.mem_nil_iff, or_false] at hz
    rcases hz with rfl | rfl <;> assumption)
  go_wp2_with fail
  refine (intsC_any (hw0.keep hbl0) (Nat.le_trans hB0.size hbl0.size) (by (try simp only [List.length_append]); omega) hsl0 (show 2 ≤ 1000 by omega) (fun b o _ e h => by cases e; have := hw0.bnd _ h; omega)).mono ?_
  rintro e W1 ⟨rfl, T1, hw1, hf1, hg1⟩
  clear hsl0
  have il0 : (intsB [x.first, x.most]).length ≤ 22 := intsB_len [x.first, x.most]
  replace hf1 : Fr T W0 W1 := (Fr.of_below hbl0 T).trans hf1
  replace hg1 : Grw T T1 W0 W1 := hg1.alloc_left hbl0.size
  have kp1 := kp0.fr hf1 np0
  have kx1 := kx0.fr hf1 nx0
  have np1 := grw_no hg1 lp0 np0
  have nx1 := grw_no hg1 lx0 nx0
  have hB1 := hB0.trans (hf1.below (fun b hb h => by have := hw0.lo b h; omega) hB0.size)
  have F1 : Fr T W W1 := F0.grw G0 hf1
  have G1 : Grw T T1 W W1 := G0.trans F0.size hg1
  clear p0 lp0 lx0 lg0 hf1 hg1 kp0 kx0 np0 nx0 F0 G0 hw0 c0 c1
  go_wp2_with fail
  go_end0
  refine ⟨rfl, T1, ?_, F1, G1⟩
  rw [Bool.or_false]
  unfold encSm
  try simp only [← List.append_assoc]
  exact hw1
set_option maxRecDepth 100000 in
theorem one_Pl {wa : World} {g pb : Nat} (x : Pl) (hx : x.ok wa) : OneW wa g (Cap g pb) 68 #[.agg #[.int .i64 x.size, .int .i64 x.depth], .pointer (some ⟨pb, 0, none⟩)] 60000000 (encPl x) false := by
  intro T W l lg hq hw hB hl
  obtain ⟨hp, hpT⟩ := hq
  have hbl := (Below.refl W.heap.size W).alloc (Nat.le_refl _) (.cells #[.int .i64 x.size, .int .i64 x.depth] 142)
  have kx0 := Blk.new W 142 #[.int .i64 x.size, .int .i64 x.depth]
  have kp0 := hp.keep hbl
  have hw0 := hw.keep hbl
  have hB0 := hB.trans (hbl.mono hB.size)
  have nx0 : ¬ T W.heap.size := fun h => by have := hw.bnd _ h; omega
  have np0 := hpT
  have F0 : Fr T W (W.alloc (.cells #[.int .i64 x.size, .int .i64 x.depth] 142)) := Fr.of_below hbl T
  have G0 : Grw T T W (W.alloc (.cells #[.int .i64 x.size, .int .i64 x.depth] 142)) := fun b hb => ⟨.inl hb, Nat.lt_of_lt_of_le (hw.bnd b hb) hbl.size⟩
  have i_x_size : i64 x.size := hx.1
  have i_x_depth : i64 x.depth := hx.2
  go_enter Tryz.func68, Tryz.ntmps68
  go_upto_region 1 with fail
  generalize W.alloc (.cells #[.int .i64 x.size, .int .i64 x.depth] 142) = W0 at kx0 kp0 hw0 hB0 F0 G0 ⊢
  generalize hbx : W.heap.size = bx at kx0 nx0 ⊢
  clear hbx hbl hp hw hB
  have p0 : W0.cell? ⟨pb, 0, none⟩ = some (.pointer (some ⟨g, 0, none⟩)) := kp0.cell 0
  have lp0 := kp0.lt
  have lx0 := kx0.lt
  have lg0 := hw0.lt
  have c0 : W0.cell? ⟨bx, 0, none⟩ = some (.int .i64 x.size) := kx0.cell 0
  have c1 : W0.cell? ⟨bx, 1, none⟩ = some (.int .i64 x.depth) := kx0.cell 1
  have hbl0 := (Below.refl W0.heap.size W0).alloc (Nat.le_refl _) (.cells #[.int .i64 x.size, .int .i64 x.depth] 3)
  have hsl0 := SlI.of_blk (Blk.new W0 3 #[.int .i64 x.size, .int .i64 x.depth]) [x.size, x.depth] rfl (show 2 ≤ 1000000 by omega) (fun z hz => by
    simp only [List.mem_cons, List.mem_nil_iff, or_false] at hz
    rcases hz with rfl | rfl <;> assumption)
  go_wp2_with fail
  refine (intsC_any (hw0.keep hbl0) (Nat.le_trans hB0.size hbl0.size) (by (try simp only [List.length_append]); omega) hsl0 (show 2 ≤ 1000 by omega) (fun b o _ e h => by cases e; have := hw0.bnd _ h; omega)).mono ?_
  rintro e W1 ⟨rfl, T1, hw1, hf1, hg1⟩
  clear hsl0
  have il0 : (intsB [x.size, x.depth]).length ≤ 22 := intsB_len [x.size, x.depth]
  replace hf1 : Fr T W0 W1 := (Fr.of_below hbl0 T).trans hf1
  replace hg1 : Grw T T1 W0 W1 := hg1.alloc_left hbl0.size
  have kp1 := kp0.fr hf1 np0
  have kx1 := kx0.fr hf1 nx0
  have np1 := grw_no hg1 lp0 np0
  have nx1 := grw_no hg1 lx0 nx0
  have hB1 := hB0.trans (hf1.below (fun b hb h => by have := hw0.lo b h; omega) hB0.size)
  have F1 : Fr T W W1 := F0.grw G0 hf1
  have G1 : Grw T T1 W W1 := G0.trans F0.size hg1
  clear p0 lp0 lx0 lg0 hf1 hg1 kp0 kx0 np0 nx0 F0 G0 hw0 c0 c1
  go_wp2_with fail
  go_end0
  refine ⟨rfl, T1, ?_, F1, G1⟩
  rw [Bool.or_false]
  unfold encPl
  try simp only [← List.append_assoc]
  exact hw1
set_option maxRecDepth 100000 in
theorem one_Wn {wa : World} {g pb : Nat} (x : Wn) (hx : x.ok wa) : OneW wa g (Cap g pb) 74 #[.agg #[.int .i64 x.part, .int .i64 x.start, .int .i64 x.len], .pointer (some ⟨pb, 0, none⟩)] 60000000 (encWn x) false := by
  intro T W l lg hq hw hB hl
  obtain ⟨hp, hpT⟩ := hq
  have hbl := (Below.refl W.heap.size W).alloc (Nat.le_refl _) (.cells #[.int .i64 x.part, .int .i64 x.start, .int .i64 x.len] 85)
  have kx0 := Blk.new W 85 #[.int .i64 x.part, .int .i64 x.start, .int .i64 x.len]
  have kp0 := hp.keep hbl
  have hw0 := hw.keep hbl
  have hB0 := hB.trans (hbl.mono hB.size)
  have nx0 : ¬ T W.heap.size := fun h => by have := hw.bnd _ h; omega
  have np0 := hpT
  have F0 : Fr T W (W.alloc (.cells #[.int .i64 x.part, .int .i64 x.start, .int .i64 x.len] 85)) := Fr.of_below hbl T
  have G0 : Grw T T W (W.alloc (.cells #[.int .i64 x.part, .int .i64 x.start, .int .i64 x.len] 85)) := fun b hb => ⟨.inl hb, Nat.lt_of_lt_of_le (hw.bnd b hb) hbl.size⟩
  have i_x_part : i64 x.part := hx.1
  have i_x_start : i64 x.start := hx.2.1
  have i_x_len : i64 x.len := hx.2.2
  go_enter Tryz.func74, Tryz.ntmps74
  go_upto_region 1 with fail
  generalize W.alloc (.cells #[.int .i64 x.part, .int .i64 x.start, .int .i64 x.len] 85) = W0 at kx0 kp0 hw0 hB0 F0 G0 ⊢
  generalize hbx : W.heap.size = bx at kx0 nx0 ⊢
  clear hbx hbl hp hw hB
  have p0 : W0.cell? ⟨pb, 0, none⟩ = some (.pointer (some ⟨g, 0, none⟩)) := kp0.cell 0
  have lp0 := kp0.lt
  have lx0 := kx0.lt
  have lg0 := hw0.lt
  have c0 : W0.cell? ⟨bx, 0, none⟩ = some (.int .i64 x.part) := kx0.cell 0
  have c1 : W0.cell? ⟨bx, 1, none⟩ = some (.int .i64 x.start) := kx0.cell 1
  have c2 : W0.cell? ⟨bx, 2, none⟩ = some (.int .i64 x.len) := kx0.cell 2
  have hbl0 := (Below.refl W0.heap.size W0).alloc (Nat.le_refl _) (.cells #[.int .i64 x.part, .int .i64 x.start, .int .i64 x.len] 3)
  have hsl0 := SlI.of_blk (Blk.new W0 3 #[.int .i64 x.part, .int .i64 x.start, .int .i64 x.len]) [x.part, x.start, x.len] rfl (show 3 ≤ 1000000 by omega) (fun z hz => by
    simp only [List.mem_cons, List.mem_nil_iff, or_false] at hz
    rcases hz with rfl | rfl | rfl <;> assumption)
  go_wp2_with fail
  refine (intsC_any (hw0.keep hbl0) (Nat.le_trans hB0.size hbl0.size) (by (try simp only [List.length_append]); omega) hsl0 (show 3 ≤ 1000 by omega) (fun b o _ e h => by cases e; have := hw0.bnd _ h; omega)).mono ?_
  rintro e W1 ⟨rfl, T1, hw1, hf1, hg1⟩
  clear hsl0
  have il0 : (intsB [x.part, x.start, x.len]).length ≤ 33 := intsB_len [x.part, x.start, x.len]
  replace hf1 : Fr T W0 W1 := (Fr.of_below hbl0 T).trans hf1
  replace hg1 : Grw T T1 W0 W1 := hg1.alloc_left hbl0.size
  have kp1 := kp0.fr hf1 np0
  have kx1 := kx0.fr hf1 nx0
  have np1 := grw_no hg1 lp0 np0
  have nx1 := grw_no hg1 lx0 nx0
  have hB1 := hB0.trans (hf1.below (fun b hb h => by have := hw0.lo b h; omega) hB0.size)
  have F1 : Fr T W W1 := F0.grw G0 hf1
  have G1 : Grw T T1 W W1 := G0.trans F0.size hg1
  clear p0 lp0 lx0 lg0 hf1 hg1 kp0 kx0 np0 nx0 F0 G0 hw0 c0 c1 c2
  go_wp2_with fail
  go_end0
  refine ⟨rfl, T1, ?_, F1, G1⟩
  rw [Bool.or_false]
  unfold encWn
  try simp only [← List.append_assoc]
  exact hw1
set_option maxRecDepth 100000 in
theorem one_Lv {wa : World} {g pb : Nat} (x : Lv) (hx : x.ok wa) : OneW wa g (Cap g pb) 76 #[.agg #[.int .i64 x.freq, .int .i64 x.power], .pointer (some ⟨pb, 0, none⟩)] 60000000 (encLv x) false := by
  intro T W l lg hq hw hB hl
  obtain ⟨hp, hpT⟩ := hq
  have hbl := (Below.refl W.heap.size W).alloc (Nat.le_refl _) (.cells #[.int .i64 x.freq, .int .i64 x.power] 87)
  have kx0 := Blk.new W 87 #[.int .i64 x.freq, .int .i64 x.power]
  have kp0 := hp.keep hbl
  have hw0 := hw.keep hbl
  have hB0 := hB.trans (hbl.mono hB.size)
  have nx0 : ¬ T W.heap.size := fun h => by have := hw.bnd _ h; omega
  have np0 := hpT
  have F0 : Fr T W (W.alloc (.cells #[.int .i64 x.freq, .int .i64 x.power] 87)) := Fr.of_below hbl T
  have G0 : Grw T T W (W.alloc (.cells #[.int .i64 x.freq, .int .i64 x.power] 87)) := fun b hb => ⟨.inl hb, Nat.lt_of_lt_of_le (hw.bnd b hb) hbl.size⟩
  have i_x_freq : i64 x.freq := hx.1
  have i_x_power : i64 x.power := hx.2
  go_enter Tryz.func76, Tryz.ntmps76
  go_upto_region 1 with fail
  generalize W.alloc (.cells #[.int .i64 x.freq, .int .i64 x.power] 87) = W0 at kx0 kp0 hw0 hB0 F0 G0 ⊢
  generalize hbx : W.heap.size = bx at kx0 nx0 ⊢
  clear hbx hbl hp hw hB
  have p0 : W0.cell? ⟨pb, 0, none⟩ = some (.pointer (some ⟨g, 0, none⟩)) := kp0.cell 0
  have lp0 := kp0.lt
  have lx0 := kx0.lt
  have lg0 := hw0.lt
  have c0 : W0.cell? ⟨bx, 0, none⟩ = some (.int .i64 x.freq) := kx0.cell 0
  have c1 : W0.cell? ⟨bx, 1, none⟩ = some (.int .i64 x.power) := kx0.cell 1
  have hbl0 := (Below.refl W0.heap.size W0).alloc (Nat.le_refl _) (.cells #[.int .i64 x.freq, .int .i64 x.power] 3)
  have hsl0 := SlI.of_blk (Blk.new W0 3 #[.int .i64 x.freq, .int .i64 x.power]) [x.freq, x.power] rfl (show 2 ≤ 1000000 by omega) (fun z hz => by
    simp only [List.mem_cons, List.mem_nil_iff, or_false] at hz
    rcases hz with rfl | rfl <;> assumption)
  go_wp2_with fail
  refine (intsC_any (hw0.keep hbl0) (Nat.le_trans hB0.size hbl0.size) (by (try simp only [List.length_append]); omega) hsl0 (show 2 ≤ 1000 by omega) (fun b o _ e h => by cases e; have := hw0.bnd _ h; omega)).mono ?_
  rintro e W1 ⟨rfl, T1, hw1, hf1, hg1⟩
  clear hsl0
  have il0 : (intsB [x.freq, x.power]).length ≤ 22 := intsB_len [x.freq, x.power]
  replace hf1 : Fr T W0 W1 := (Fr.of_below hbl0 T).trans hf1
  replace hg1 : Grw T T1 W0 W1 := hg1.alloc_left hbl0.size
  have kp1 := kp0.fr hf1 np0
  have kx1 := kx0.fr hf1 nx0
  have np1 := grw_no hg1 lp0 np0
  have nx1 := grw_no hg1 lx0 nx0
  have hB1 := hB0.trans (hf1.below (fun b hb h => by have := hw0.lo b h; omega) hB0.size)
  have F1 : Fr T W W1 := F0.grw G0 hf1
  have G1 : Grw T T1 W W1 := G0.trans F0.size hg1
  clear p0 lp0 lx0 lg0 hf1 hg1 kp0 kx0 np0 nx0 F0 G0 hw0 c0 c1
  go_wp2_with fail
  go_end0
  refine ⟨rfl, T1, ?_, F1, G1⟩
  rw [Bool.or_false]
  unfold encLv
  try simp only [← List.append_assoc]
  exact hw1
set_option maxRecDepth 100000 in
theorem one_Np {wa : World} {g pb : Nat} (x : Np) (hx : x.ok wa) : OneW wa g (Cap g pb) 78 #[.agg #[.int .i64 x.power, .int .i64 x.enter, .int .i64 x.wake], .pointer (some ⟨pb, 0, none⟩)] 60000000 (encNp x) false := by
  intro T W l lg hq hw hB hl
  obtain ⟨hp, hpT⟩ := hq
  have hbl := (Below.refl W.heap.size W).alloc (Nat.le_refl _) (.cells #[.int .i64 x.power, .int .i64 x.enter, .int .i64 x.wake] 89)
  have kx0 := Blk.new W 89 #[.int .i64 x.power, .int .i64 x.enter, .int .i64 x.wake]
  have kp0 := hp.keep hbl
  have hw0 := hw.keep hbl
  have hB0 := hB.trans (hbl.mono hB.size)
  have nx0 : ¬ T W.heap.size := fun h => by have := hw.bnd _ h; omega
  have np0 := hpT
  have F0 : Fr T W (W.alloc (.cells #[.int .i64 x.power, .int .i64 x.enter, .int .i64 x.wake] 89)) := Fr.of_below hbl T
  have G0 : Grw T T W (W.alloc (.cells #[.int .i64 x.power, .int .i64 x.enter, .int .i64 x.wake] 89)) := fun b hb => ⟨.inl hb, Nat.lt_of_lt_of_le (hw.bnd b hb) hbl.size⟩
  have i_x_power : i64 x.power := hx.1
  have i_x_enter : i64 x.enter := hx.2.1
  have i_x_wake : i64 x.wake := hx.2.2
  go_enter Tryz.func78, Tryz.ntmps78
  go_upto_region 1 with fail
  generalize W.alloc (.cells #[.int .i64 x.power, .int .i64 x.enter, .int .i64 x.wake] 89) = W0 at kx0 kp0 hw0 hB0 F0 G0 ⊢
  generalize hbx : W.heap.size = bx at kx0 nx0 ⊢
  clear hbx hbl hp hw hB
  have p0 : W0.cell? ⟨pb, 0, none⟩ = some (.pointer (some ⟨g, 0, none⟩)) := kp0.cell 0
  have lp0 := kp0.lt
  have lx0 := kx0.lt
  have lg0 := hw0.lt
  have c0 : W0.cell? ⟨bx, 0, none⟩ = some (.int .i64 x.power) := kx0.cell 0
  have c1 : W0.cell? ⟨bx, 1, none⟩ = some (.int .i64 x.enter) := kx0.cell 1
  have c2 : W0.cell? ⟨bx, 2, none⟩ = some (.int .i64 x.wake) := kx0.cell 2
  have hbl0 := (Below.refl W0.heap.size W0).alloc (Nat.le_refl _) (.cells #[.int .i64 x.power, .int .i64 x.enter, .int .i64 x.wake] 3)
  have hsl0 := SlI.of_blk (Blk.new W0 3 #[.int .i64 x.power, .int .i64 x.enter, .int .i64 x.wake]) [x.power, x.enter, x.wake] rfl (show 3 ≤ 1000000 by omega) (fun z hz => by
    simp only [List.mem_cons, List.mem_nil_iff, or_false] at hz
    rcases hz with rfl | rfl | rfl <;> assumption)
  go_wp2_with fail
  refine (intsC_any (hw0.keep hbl0) (Nat.le_trans hB0.size hbl0.size) (by (try simp only [List.length_append]); omega) hsl0 (show 3 ≤ 1000 by omega) (fun b o _ e h => by cases e; have := hw0.bnd _ h; omega)).mono ?_
  rintro e W1 ⟨rfl, T1, hw1, hf1, hg1⟩
  clear hsl0
  have il0 : (intsB [x.power, x.enter, x.wake]).length ≤ 33 := intsB_len [x.power, x.enter, x.wake]
  replace hf1 : Fr T W0 W1 := (Fr.of_below hbl0 T).trans hf1
  replace hg1 : Grw T T1 W0 W1 := hg1.alloc_left hbl0.size
  have kp1 := kp0.fr hf1 np0
  have kx1 := kx0.fr hf1 nx0
  have np1 := grw_no hg1 lp0 np0
  have nx1 := grw_no hg1 lx0 nx0
  have hB1 := hB0.trans (hf1.below (fun b hb h => by have := hw0.lo b h; omega) hB0.size)
  have F1 : Fr T W W1 := F0.grw G0 hf1
  have G1 : Grw T T1 W W1 := G0.trans F0.size hg1
  clear p0 lp0 lx0 lg0 hf1 hg1 kp0 kx0 np0 nx0 F0 G0 hw0 c0 c1 c2
  go_wp2_with fail
  go_end0
  refine ⟨rfl, T1, ?_, F1, G1⟩
  rw [Bool.or_false]
  unfold encNp
  try simp only [← List.append_assoc]
  exact hw1
set_option maxRecDepth 100000 in
theorem one_Ch {wa : World} {g pb : Nat} (x : Ch) (hx : x.ok wa) : OneW wa g (Cap g pb) 18 #[.agg #[.int .i64 x.fr.part, .int .i64 x.fr.port, .int .i64 x.to.part, .int .i64 x.to.port], .pointer (some ⟨pb, 0, none⟩)] 60000000 (encCh x) false := by
  intro T W l lg hq hw hB hl
  obtain ⟨hp, hpT⟩ := hq
  have hbl := (Below.refl W.heap.size W).alloc (Nat.le_refl _) (.cells #[.int .i64 x.fr.part, .int .i64 x.fr.port, .int .i64 x.to.part, .int .i64 x.to.port] 72)
  have kx0 := Blk.new W 72 #[.int .i64 x.fr.part, .int .i64 x.fr.port, .int .i64 x.to.part, .int .i64 x.to.port]
  have kp0 := hp.keep hbl
  have hw0 := hw.keep hbl
  have hB0 := hB.trans (hbl.mono hB.size)
  have nx0 : ¬ T W.heap.size := fun h => by have := hw.bnd _ h; omega
  have np0 := hpT
  have F0 : Fr T W (W.alloc (.cells #[.int .i64 x.fr.part, .int .i64 x.fr.port, .int .i64 x.to.part, .int .i64 x.to.port] 72)) := Fr.of_below hbl T
  have G0 : Grw T T W (W.alloc (.cells #[.int .i64 x.fr.part, .int .i64 x.fr.port, .int .i64 x.to.part, .int .i64 x.to.port] 72)) := fun b hb => ⟨.inl hb, Nat.lt_of_lt_of_le (hw.bnd b hb) hbl.size⟩
  have i_x_fr_part : i64 x.fr.part := hx.1.1
  have i_x_fr_port : i64 x.fr.port := hx.1.2
  have i_x_to_part : i64 x.to.part := hx.2.1
  have i_x_to_port : i64 x.to.port := hx.2.2
  go_enter Tryz.func18, Tryz.ntmps18
  go_upto_region 1 with fail
  generalize W.alloc (.cells #[.int .i64 x.fr.part, .int .i64 x.fr.port, .int .i64 x.to.part, .int .i64 x.to.port] 72) = W0 at kx0 kp0 hw0 hB0 F0 G0 ⊢
  generalize hbx : W.heap.size = bx at kx0 nx0 ⊢
  clear hbx hbl hp hw hB
  have p0 : W0.cell? ⟨pb, 0, none⟩ = some (.pointer (some ⟨g, 0, none⟩)) := kp0.cell 0
  have lp0 := kp0.lt
  have lx0 := kx0.lt
  have lg0 := hw0.lt
  have c0 : W0.cell? ⟨bx, 0, none⟩ = some (.int .i64 x.fr.part) := kx0.cell 0
  have c1 : W0.cell? ⟨bx, 1, none⟩ = some (.int .i64 x.fr.port) := kx0.cell 1
  have c2 : W0.cell? ⟨bx, 2, none⟩ = some (.int .i64 x.to.part) := kx0.cell 2
  have c3 : W0.cell? ⟨bx, 3, none⟩ = some (.int .i64 x.to.port) := kx0.cell 3
  have hbl0 := (Below.refl W0.heap.size W0).alloc (Nat.le_refl _) (.cells #[.int .i64 x.fr.part, .int .i64 x.fr.port, .int .i64 x.to.part, .int .i64 x.to.port] 3)
  have hsl0 := SlI.of_blk (Blk.new W0 3 #[.int .i64 x.fr.part, .int .i64 x.fr.port, .int .i64 x.to.part, .int .i64 x.to.port]) [x.fr.part, x.fr.port, x.to.part, x.to.port] rfl (show 4 ≤ 1000000 by omega) (fun z hz => by
    simp only [List.mem_cons, List.mem_nil_iff, or_false] at hz
    rcases hz with rfl | rfl | rfl | rfl <;> assumption)
  go_wp2_with fail
  refine (intsC_any (hw0.keep hbl0) (Nat.le_trans hB0.size hbl0.size) (by (try simp only [List.length_append]); omega) hsl0 (show 4 ≤ 1000 by omega) (fun b o _ e h => by cases e; have := hw0.bnd _ h; omega)).mono ?_
  rintro e W1 ⟨rfl, T1, hw1, hf1, hg1⟩
  clear hsl0
  have il0 : (intsB [x.fr.part, x.fr.port, x.to.part, x.to.port]).length ≤ 44 := intsB_len [x.fr.part, x.fr.port, x.to.part, x.to.port]
  replace hf1 : Fr T W0 W1 := (Fr.of_below hbl0 T).trans hf1
  replace hg1 : Grw T T1 W0 W1 := hg1.alloc_left hbl0.size
  have kp1 := kp0.fr hf1 np0
  have kx1 := kx0.fr hf1 nx0
  have np1 := grw_no hg1 lp0 np0
  have nx1 := grw_no hg1 lx0 nx0
  have hB1 := hB0.trans (hf1.below (fun b hb h => by have := hw0.lo b h; omega) hB0.size)
  have F1 : Fr T W W1 := F0.grw G0 hf1
  have G1 : Grw T T1 W W1 := G0.trans F0.size hg1
  clear p0 lp0 lx0 lg0 hf1 hg1 kp0 kx0 np0 nx0 F0 G0 hw0 c0 c1 c2 c3
  go_wp2_with fail
  go_end0
  refine ⟨rfl, T1, ?_, F1, G1⟩
  rw [Bool.or_false]
  unfold encCh
  try simp only [← List.append_assoc]
  exact hw1
theorem one_In {wa : World} {g : Nat} (x : Int) (hx : i64 x) : OneW wa g (fun _ _ => True) 66 #[.pointer (some ⟨g, 0, none⟩), .int .i64 x] 60000000 (vint x) false := by
  intro T W l lg _ hw hB hl
  rw [Bool.or_false]
  exact writeIntC_any hw hB.size (by omega) hx
end Go.Proofs.YtahjnonkhbpnpaaGreat
/- conf's lists, written: Region, ProcConf, PortConf, SemConf. Printed by wip/gen_cwlist.py. -/
namespace Go.Proofs.YtahjnonkhbpnpaaGreat
open Go.RowKit
set_option maxRecDepth 100000 in
theorem list1_Rg {wa : World} {g p po : Nat} {Q : (Nat → Prop) → World → Prop} {enc : List UInt8} {bad : Bool} (x : Rg) {N : Nat} (hone : OneW wa g Q 58 #[.agg #[.int .i64 x.base, .int .i64 x.size, .bool x.wr], .pointer (some ⟨p, 0, none⟩)] N enc bad) {T : Nat → Prop} {W : World} {l : List UInt8} {lg : Bool}
    (hQ : Stq Q) (hq : Q T W) (hw : WrC W wa.heap.size g T l lg) (hB : Below wa.heap.size wa W) (hl : l.length ≤ N) (ho : Blk W po 126 #[.func (.func 58) #[] #[.pointer (some ⟨p, 0, none⟩)]]) :
    Calls Tryz.prog 115 #[.pointer (some ⟨g, 0, none⟩), .agg #[.int .i64 x.base, .int .i64 x.size, .bool x.wr], .pointer (some ⟨po, 0, none⟩)] W (Wro W wa.heap.size g T (l ++ enc) (lg || bad)) := by
  have hb1 := (Below.refl W.heap.size W).alloc (Nat.le_refl _) (.cells #[.int .i64 x.base, .int .i64 x.size, .bool x.wr] 124)
  have k1 := Blk.new W 124 #[.int .i64 x.base, .int .i64 x.size, .bool x.wr]
  have hw1 := hw.keep hb1
  have ho1 := ho.keep hb1
  have hq1 := hQ T T _ _ hq (Fr.of_below hb1 T) (fun b hb => ⟨.inl hb, Nat.lt_of_lt_of_le (hw.bnd b hb) hb1.size⟩)
  have hB1 := hB.trans (hb1.mono hB.size)
  go_enter Tryz.func115, Tryz.ntmps115
  go_upto_region 1 with fail
  generalize W.alloc (.cells #[.int .i64 x.base, .int .i64 x.size, .bool x.wr] 124) = W1 at hb1 k1 hw1 ho1 hq1 hB1 ⊢
  have c0 : W1.cell? ⟨W.heap.size, 0, none⟩ = some (.int .i64 x.base) := k1.cell 0
  have c1 : W1.cell? ⟨W.heap.size, 1, none⟩ = some (.int .i64 x.size) := k1.cell 1
  have c2 : W1.cell? ⟨W.heap.size, 2, none⟩ = some (.bool x.wr) := k1.cell 2
  have hl1 := k1.lt
  have hlo := ho1.lt
  have o0 : W1.cell? ⟨po, 0, none⟩ = some (.func (.func 58) #[] #[.pointer (some ⟨p, 0, none⟩)]) := ho1.cell 0
  go_wp2_with fail
  refine (hone T W1 l lg hq1 hw1 hB1 hl).mono ?_
  rintro e W2 ⟨rfl, h2⟩
  go_wp2_with fail
  go_end0
  exact Wro.below ⟨rfl, h2⟩ hb1
theorem any_snocRg {bad : Rg → Bool} {l : List Rg} {k : Nat} (h : k < l.length) (lg : Bool) : (lg || (l.take k).any bad || bad (atD Rg0 l k)) = (lg || (l.take (k + 1)).any bad) := by
  rw [take_snocG Rg0 l k h]
  simp [Bool.or_assoc]
set_option maxRecDepth 100000 in
theorem put_Rg {wa : World} {g p po : Nat} {Q : (Nat → Prop) → World → Prop} {enc : Rg → List UInt8} {bad : Rg → Bool} {h : Hd Rg} {N M : Nat} (hh : rdRgs.ok wa h) (hn : h.l.length ≤ 100) (hone : ∀ x ∈ h.l, OneW wa g Q 58 #[.agg #[.int .i64 x.base, .int .i64 x.size, .bool x.wr], .pointer (some ⟨p, 0, none⟩)] N (enc x) (bad x))
    (hM : ∀ x ∈ h.l, (enc x).length ≤ M) (hN : N ≤ 60000000) {T : Nat → Prop} {W : World} {l : List UInt8} {lg : Bool}
    (hQ : Stq Q) (hq : Q T W) (hw : WrC W wa.heap.size g T l lg) (hB : Below wa.heap.size wa W) (hl : l.length + 11 + 100 * M ≤ N) (ho : Blk W po 126 #[.func (.func 58) #[] #[.pointer (some ⟨p, 0, none⟩)]]) (hpo : ¬ T po) :
    Calls Tryz.prog 114 #[.pointer (some ⟨g, 0, none⟩), .slice h.A h.l.length h.c, .func (.func 115) #[] #[.pointer (some ⟨po, 0, none⟩)]] W (Wro W wa.heap.size g T (l ++ (vint h.l.length ++ h.l.flatMap enc)) (lg || h.l.any bad)) := by
  have hgl := hw.lt
  have hBs := hB.size
  obtain ⟨A, c, hl0⟩ := h
  simp only at hh hn hone hM ⊢
  have hvl := vint_len (hl0.length : Int)
  go_enter Tryz.func114, Tryz.ntmps114
  go_wp2_with fail
  refine (writeIntC_any hw hBs (by omega) (n := (hl0.length : Int)) (by unfold i64; omega)).mono ?_
  rintro e w2 ⟨rfl, T2, h2, hf2, hg2⟩
  go_wp2_with fail
  go_loopw [16] (fun i wr => ∃ (k : Nat) (T' : Nat → Prop), k ≤ hl0.length ∧ i = .int .i64 (k : Int) ∧ WrC wr wa.heap.size g T' ((l ++ vint hl0.length) ++ (hl0.take k).flatMap enc) (lg || (hl0.take k).any bad) ∧ Fr T W wr ∧ Grw T T' W wr) (fun i _ => hl0.length - (intOf i).toNat)
  case atStart => exact ⟨0, T2, Nat.zero_le _, rfl, by simpa using h2, hf2, hg2⟩
  case round =>
    obtain ⟨k, T', hk, rfl, hwr, hfr, hgr⟩ := hrel
    have hqr := hQ _ _ _ _ hq hfr hgr
    have hBr := hB.trans (hfr.below (fun b hb h => by have := hw.lo b h; omega) hBs)
    have hor := ho.fr hfr hpo
    by_cases hlt : k < hl0.length
    · have hT1 := Lib.hid (any_snocRg (bad := bad) hlt lg)
      have hT2 : Hid ((hl0.take (k + 1)).flatMap enc = (hl0.take k).flatMap enc ++ enc (atD Rg0 hl0 k)) := by
        unfold Hid
        rw [take_snocG Rg0 hl0 k hlt, List.flatMap_append]
        simp
      have hfl : ((hl0.take k).flatMap enc).length ≤ k * M := flat_le enc _ (fun x hx => hM x (List.mem_of_mem_take hx)) k (by rw [List.length_take]; omega)
      have hkM : k * M ≤ 100 * M := Nat.mul_le_mul_right M (by omega)
      have honek := hone _ (atD_mem (d := Rg0) hlt)
      obtain ⟨eb, eo, rfl, heb, hec⟩ := (rdRgs.keep hh hBr).1.at_ Rg0 hlt
      have x0 : wr.cell? ⟨eb, eo + k * 3, none⟩ = some (.int .i64 (atD Rg0 hl0 k).base) := hec 0 _ rfl
      have x1 : wr.cell? ⟨eb, eo + k * 3 + 1, none⟩ = some (.int .i64 (atD Rg0 hl0 k).size) := hec 1 _ rfl
      have x2 : wr.cell? ⟨eb, eo + k * 3 + 2, none⟩ = some (.bool (atD Rg0 hl0 k).wr) := hec 2 _ rfl
      clear hec
      generalize atD Rg0 hl0 k = x at x0 x1 x2 hT1 hT2 honek
      have hb3 := (Below.refl wr.heap.size wr).alloc (Nat.le_refl _) (.cells #[.int .i64 x.base, .int .i64 x.size, .bool x.wr] 124)
      have k3 := Blk.new wr 124 #[.int .i64 x.base, .int .i64 x.size, .bool x.wr]
      go_upto_region 5 with fail
      generalize wr.alloc (.cells #[.int .i64 x.base, .int .i64 x.size, .bool x.wr] 124) = w3 at hb3 k3 ⊢
      have hw3 := hwr.keep hb3
      have ho3 := hor.keep hb3
      have hq3 := hQ T' T' _ _ hqr (Fr.of_below hb3 T') (fun b hb => ⟨.inl hb, Nat.lt_of_lt_of_le (hwr.bnd b hb) hb3.size⟩)
      have hB3 := hBr.trans (hb3.mono hBr.size)
      have y0 : w3.cell? ⟨wr.heap.size, 0, none⟩ = some (.int .i64 x.base) := k3.cell 0
      have y1 : w3.cell? ⟨wr.heap.size, 1, none⟩ = some (.int .i64 x.size) := k3.cell 1
      have y2 : w3.cell? ⟨wr.heap.size, 2, none⟩ = some (.bool x.wr) := k3.cell 2
      have hl3 := k3.lt
      clear x0 x1 x2
      go_wp2_with fail
      refine (list1_Rg (po := po) x honek hQ hq3 hw3 hB3 (by simp only [List.length_append]; omega) ho3).mono ?_
      rintro e w4 ⟨rfl, T4, h4, hf4, hg4⟩
      go_wp2_with fail
      refine ⟨⟨k + 1, T4, by omega, by go_num, ?_, hfr.grw hgr ((Fr.of_below hb3 T').trans hf4), hgr.trans hfr.size (hg4.alloc_left hb3.size)⟩, by simp [intOf]; omega⟩
      rw [hT2.out, ← hT1.out, ← List.append_assoc]
      exact h4
    · obtain rfl : k = hl0.length := by omega
      have HT : Hid (hl0.take hl0.length = hl0) := List.take_length
      rw [HT.out, List.append_assoc] at hwr
      go_wp2_with fail
      go_end0
      exact ⟨rfl, T', hwr, hfr, hgr⟩
set_option maxRecDepth 100000 in
theorem list_Rg {wa : World} {g p : Nat} {Q : (Nat → Prop) → World → Prop} {enc : Rg → List UInt8} {bad : Rg → Bool} {h : Hd Rg} {N M : Nat} (hh : rdRgs.ok wa h) (hn : h.l.length ≤ 100) (hone : ∀ x ∈ h.l, OneW wa g Q 58 #[.agg #[.int .i64 x.base, .int .i64 x.size, .bool x.wr], .pointer (some ⟨p, 0, none⟩)] N (enc x) (bad x))
    (hM : ∀ x ∈ h.l, (enc x).length ≤ M) (hN : N ≤ 60000000) {T : Nat → Prop} {W : World} {l : List UInt8} {lg : Bool}
    (hQ : Stq Q) (hq : Q T W) (hw : WrC W wa.heap.size g T l lg) (hB : Below wa.heap.size wa W) (hl : l.length + 11 + 100 * M ≤ N) :
    Calls Tryz.prog 57 #[.pointer (some ⟨g, 0, none⟩), .slice h.A h.l.length h.c, .func (.func 58) #[] #[.pointer (some ⟨p, 0, none⟩)]] W (Wro W wa.heap.size g T (l ++ (vint h.l.length ++ h.l.flatMap enc)) (lg || (decide (64 < h.l.length) || h.l.any bad))) := by
  have hb1 := (Below.refl W.heap.size W).alloc (Nat.le_refl _) (.cells #[.func (.func 58) #[] #[.pointer (some ⟨p, 0, none⟩)]] 126)
  have k1 := Blk.new W 126 #[.func (.func 58) #[] #[.pointer (some ⟨p, 0, none⟩)]]
  have hw1 := hw.keep hb1
  have hT1 : ¬ T W.heap.size := fun h => by have := hw.bnd _ h; omega
  have hq1 := hQ T T _ _ hq (Fr.of_below hb1 T) (fun b hb => ⟨.inl hb, Nat.lt_of_lt_of_le (hw.bnd b hb) hb1.size⟩)
  have hgl := hw1.lt
  go_enter Tryz.func57, Tryz.ntmps57
  go_upto_region 1 with fail
  generalize W.alloc (.cells #[.func (.func 58) #[] #[.pointer (some ⟨p, 0, none⟩)]] 126) = W1 at hb1 k1 hw1 hq1 hgl ⊢
  have hB1 := hB.trans (hb1.mono hB.size)
  have hwg := hw1
  obtain ⟨⟨v, kb, hrow, hv⟩, h6, h7, h8⟩ := hwg
  have c1 : W1.cell? ⟨g, 1, none⟩ = some (.bool lg) := kb.cell 1
  have f1 : W1.frozen? ⟨g, 1, none⟩ = false := kb.frozen 1
  have hpg : W.heap.size ≠ g := fun h => by rw [h] at hT1; exact hT1 hw.tg
  have fin : ∀ lg2 : Bool, (lg || decide (64 < h.l.length)) = lg2 → Hid (Calls Tryz.prog 114 #[.pointer (some ⟨g, 0, none⟩), .slice h.A h.l.length h.c, .func (.func 115) #[] #[.pointer (some ⟨W.heap.size, 0, none⟩)]] (W1.setCell ⟨g, 1, none⟩ (.bool lg2)) (Wro W wa.heap.size g T (l ++ (vint h.l.length ++ h.l.flatMap enc)) (lg || (decide (64 < h.l.length) || h.l.any bad)))) := fun lg2 h2 => by
    have hwn := hw1.setLong lg2
    have hfn : Fr T W1 (W1.setCell ⟨g, 1, none⟩ (.bool lg2)) := (Fr.refl T W1).setCell (p := ⟨g, 1, none⟩) (fun _ => hw.tg) _
    have hgn : Grw T T W1 (W1.setCell ⟨g, 1, none⟩ (.bool lg2)) := fun b hb => ⟨.inl hb, hwn.bnd b hb⟩
    have hBn := hB1.trans (hfn.below (fun b hb h => by have := hw.lo b h; omega) hB1.size)
    refine (put_Rg (po := W.heap.size) hh hn hone hM hN hQ (hQ _ _ _ _ hq1 hfn hgn) hwn hBn hl (k1.fr hfn hT1) hT1).mono ?_
    rintro e W9 ⟨rfl, T9, h9, hf9, hg9⟩
    refine ⟨rfl, T9, ?_, (Fr.of_below hb1 T).trans (hfn.trans hf9), (hg9.alloc_left (W0 := W1) hfn.size).alloc_left hb1.size⟩
    rw [← Bool.or_assoc, h2]
    exact h9
  cases hlg : lg with
  | true =>
    have FN := fin true (by rw [hlg]; rfl)
    rw [hlg] at c1
    clear fin hlg
    go_wp2_with fail
    refine FN.out.mono ?_
    rintro e W9 ⟨rfl, h9⟩
    go_wp2_with fail
    go_end0
    exact ⟨rfl, h9⟩
  | false =>
    rw [hlg] at c1
    have FN := fin (decide (64 < (h.l.length : Int))) (by rw [hlg, Bool.false_or]; exact decide_eq_decide.2 (by omega))
    clear fin hlg
    go_wp2_with fail
    refine FN.out.mono ?_
    rintro e W9 ⟨rfl, h9⟩
    go_wp2_with fail
    go_end0
    exact ⟨rfl, h9⟩
set_option maxRecDepth 100000 in
theorem list1_Pc {wa : World} {g p po : Nat} {Q : (Nat → Prop) → World → Prop} {enc : List UInt8} {bad : Bool} (x : Pc) {N : Nat} (hone : OneW wa g Q 61 #[.agg #[.int .i64 x.prio, .int .i64 x.per, .int .i64 x.cost], .pointer (some ⟨p, 0, none⟩)] N enc bad) {T : Nat → Prop} {W : World} {l : List UInt8} {lg : Bool}
    (hQ : Stq Q) (hq : Q T W) (hw : WrC W wa.heap.size g T l lg) (hB : Below wa.heap.size wa W) (hl : l.length ≤ N) (ho : Blk W po 130 #[.func (.func 61) #[] #[.pointer (some ⟨p, 0, none⟩)]]) :
    Calls Tryz.prog 118 #[.pointer (some ⟨g, 0, none⟩), .agg #[.int .i64 x.prio, .int .i64 x.per, .int .i64 x.cost], .pointer (some ⟨po, 0, none⟩)] W (Wro W wa.heap.size g T (l ++ enc) (lg || bad)) := by
  have hb1 := (Below.refl W.heap.size W).alloc (Nat.le_refl _) (.cells #[.int .i64 x.prio, .int .i64 x.per, .int .i64 x.cost] 129)
  have k1 := Blk.new W 129 #[.int .i64 x.prio, .int .i64 x.per, .int .i64 x.cost]
  have hw1 := hw.keep hb1
  have ho1 := ho.keep hb1
  have hq1 := hQ T T _ _ hq (Fr.of_below hb1 T) (fun b hb => ⟨.inl hb, Nat.lt_of_lt_of_le (hw.bnd b hb) hb1.size⟩)
  have hB1 := hB.trans (hb1.mono hB.size)
  go_enter Tryz.func118, Tryz.ntmps118
  go_upto_region 1 with fail
  generalize W.alloc (.cells #[.int .i64 x.prio, .int .i64 x.per, .int .i64 x.cost] 129) = W1 at hb1 k1 hw1 ho1 hq1 hB1 ⊢
  have c0 : W1.cell? ⟨W.heap.size, 0, none⟩ = some (.int .i64 x.prio) := k1.cell 0
  have c1 : W1.cell? ⟨W.heap.size, 1, none⟩ = some (.int .i64 x.per) := k1.cell 1
  have c2 : W1.cell? ⟨W.heap.size, 2, none⟩ = some (.int .i64 x.cost) := k1.cell 2
  have hl1 := k1.lt
  have hlo := ho1.lt
  have o0 : W1.cell? ⟨po, 0, none⟩ = some (.func (.func 61) #[] #[.pointer (some ⟨p, 0, none⟩)]) := ho1.cell 0
  go_wp2_with fail
  refine (hone T W1 l lg hq1 hw1 hB1 hl).mono ?_
  rintro e W2 ⟨rfl, h2⟩
  go_wp2_with fail
  go_end0
  exact Wro.below ⟨rfl, h2⟩ hb1
theorem any_snocPc {bad : Pc → Bool} {l : List Pc} {k : Nat} (h : k < l.length) (lg : Bool) : (lg || (l.take k).any bad || bad (atD Pc0 l k)) = (lg || (l.take (k + 1)).any bad) := by
  rw [take_snocG Pc0 l k h]
  simp [Bool.or_assoc]
set_option maxRecDepth 100000 in
theorem put_Pc {wa : World} {g p po : Nat} {Q : (Nat → Prop) → World → Prop} {enc : Pc → List UInt8} {bad : Pc → Bool} {h : Hd Pc} {N M : Nat} (hh : rdPcs.ok wa h) (hn : h.l.length ≤ 100) (hone : ∀ x ∈ h.l, OneW wa g Q 61 #[.agg #[.int .i64 x.prio, .int .i64 x.per, .int .i64 x.cost], .pointer (some ⟨p, 0, none⟩)] N (enc x) (bad x))
    (hM : ∀ x ∈ h.l, (enc x).length ≤ M) (hN : N ≤ 60000000) {T : Nat → Prop} {W : World} {l : List UInt8} {lg : Bool}
    (hQ : Stq Q) (hq : Q T W) (hw : WrC W wa.heap.size g T l lg) (hB : Below wa.heap.size wa W) (hl : l.length + 11 + 100 * M ≤ N) (ho : Blk W po 130 #[.func (.func 61) #[] #[.pointer (some ⟨p, 0, none⟩)]]) (hpo : ¬ T po) :
    Calls Tryz.prog 117 #[.pointer (some ⟨g, 0, none⟩), .slice h.A h.l.length h.c, .func (.func 118) #[] #[.pointer (some ⟨po, 0, none⟩)]] W (Wro W wa.heap.size g T (l ++ (vint h.l.length ++ h.l.flatMap enc)) (lg || h.l.any bad)) := by
  have hgl := hw.lt
  have hBs := hB.size
  obtain ⟨A, c, hl0⟩ := h
  simp only at hh hn hone hM ⊢
  have hvl := vint_len (hl0.length : Int)
  go_enter Tryz.func117, Tryz.ntmps117
  go_wp2_with fail
  refine (writeIntC_any hw hBs (by omega) (n := (hl0.length : Int)) (by unfold i64; omega)).mono ?_
  rintro e w2 ⟨rfl, T2, h2, hf2, hg2⟩
  go_wp2_with fail
  go_loopw [16] (fun i wr => ∃ (k : Nat) (T' : Nat → Prop), k ≤ hl0.length ∧ i = .int .i64 (k : Int) ∧ WrC wr wa.heap.size g T' ((l ++ vint hl0.length) ++ (hl0.take k).flatMap enc) (lg || (hl0.take k).any bad) ∧ Fr T W wr ∧ Grw T T' W wr) (fun i _ => hl0.length - (intOf i).toNat)
  case atStart => exact ⟨0, T2, Nat.zero_le _, rfl, by simpa using h2, hf2, hg2⟩
  case round =>
    obtain ⟨k, T', hk, rfl, hwr, hfr, hgr⟩ := hrel
    have hqr := hQ _ _ _ _ hq hfr hgr
    have hBr := hB.trans (hfr.below (fun b hb h => by have := hw.lo b h; omega) hBs)
    have hor := ho.fr hfr hpo
    by_cases hlt : k < hl0.length
    · have hT1 := Lib.hid (any_snocPc (bad := bad) hlt lg)
      have hT2 : Hid ((hl0.take (k + 1)).flatMap enc = (hl0.take k).flatMap enc ++ enc (atD Pc0 hl0 k)) := by
        unfold Hid
        rw [take_snocG Pc0 hl0 k hlt, List.flatMap_append]
        simp
      have hfl : ((hl0.take k).flatMap enc).length ≤ k * M := flat_le enc _ (fun x hx => hM x (List.mem_of_mem_take hx)) k (by rw [List.length_take]; omega)
      have hkM : k * M ≤ 100 * M := Nat.mul_le_mul_right M (by omega)
      have honek := hone _ (atD_mem (d := Pc0) hlt)
      obtain ⟨eb, eo, rfl, heb, hec⟩ := (rdPcs.keep hh hBr).1.at_ Pc0 hlt
      have x0 : wr.cell? ⟨eb, eo + k * 3, none⟩ = some (.int .i64 (atD Pc0 hl0 k).prio) := hec 0 _ rfl
      have x1 : wr.cell? ⟨eb, eo + k * 3 + 1, none⟩ = some (.int .i64 (atD Pc0 hl0 k).per) := hec 1 _ rfl
      have x2 : wr.cell? ⟨eb, eo + k * 3 + 2, none⟩ = some (.int .i64 (atD Pc0 hl0 k).cost) := hec 2 _ rfl
      clear hec
      generalize atD Pc0 hl0 k = x at x0 x1 x2 hT1 hT2 honek
      have hb3 := (Below.refl wr.heap.size wr).alloc (Nat.le_refl _) (.cells #[.int .i64 x.prio, .int .i64 x.per, .int .i64 x.cost] 129)
      have k3 := Blk.new wr 129 #[.int .i64 x.prio, .int .i64 x.per, .int .i64 x.cost]
      go_upto_region 5 with fail
      generalize wr.alloc (.cells #[.int .i64 x.prio, .int .i64 x.per, .int .i64 x.cost] 129) = w3 at hb3 k3 ⊢
      have hw3 := hwr.keep hb3
      have ho3 := hor.keep hb3
      have hq3 := hQ T' T' _ _ hqr (Fr.of_below hb3 T') (fun b hb => ⟨.inl hb, Nat.lt_of_lt_of_le (hwr.bnd b hb) hb3.size⟩)
      have hB3 := hBr.trans (hb3.mono hBr.size)
      have y0 : w3.cell? ⟨wr.heap.size, 0, none⟩ = some (.int .i64 x.prio) := k3.cell 0
      have y1 : w3.cell? ⟨wr.heap.size, 1, none⟩ = some (.int .i64 x.per) := k3.cell 1
      have y2 : w3.cell? ⟨wr.heap.size, 2, none⟩ = some (.int .i64 x.cost) := k3.cell 2
      have hl3 := k3.lt
      clear x0 x1 x2
      go_wp2_with fail
      refine (list1_Pc (po := po) x honek hQ hq3 hw3 hB3 (by simp only [List.length_append]; omega) ho3).mono ?_
      rintro e w4 ⟨rfl, T4, h4, hf4, hg4⟩
      go_wp2_with fail
      refine ⟨⟨k + 1, T4, by omega, by go_num, ?_, hfr.grw hgr ((Fr.of_below hb3 T').trans hf4), hgr.trans hfr.size (hg4.alloc_left hb3.size)⟩, by simp [intOf]; omega⟩
      rw [hT2.out, ← hT1.out, ← List.append_assoc]
      exact h4
    · obtain rfl : k = hl0.length := by omega
      have HT : Hid (hl0.take hl0.length = hl0) := List.take_length
      rw [HT.out, List.append_assoc] at hwr
      go_wp2_with fail
      go_end0
      exact ⟨rfl, T', hwr, hfr, hgr⟩
set_option maxRecDepth 100000 in
theorem list_Pc {wa : World} {g p : Nat} {Q : (Nat → Prop) → World → Prop} {enc : Pc → List UInt8} {bad : Pc → Bool} {h : Hd Pc} {N M : Nat} (hh : rdPcs.ok wa h) (hn : h.l.length ≤ 100) (hone : ∀ x ∈ h.l, OneW wa g Q 61 #[.agg #[.int .i64 x.prio, .int .i64 x.per, .int .i64 x.cost], .pointer (some ⟨p, 0, none⟩)] N (enc x) (bad x))
    (hM : ∀ x ∈ h.l, (enc x).length ≤ M) (hN : N ≤ 60000000) {T : Nat → Prop} {W : World} {l : List UInt8} {lg : Bool}
    (hQ : Stq Q) (hq : Q T W) (hw : WrC W wa.heap.size g T l lg) (hB : Below wa.heap.size wa W) (hl : l.length + 11 + 100 * M ≤ N) :
    Calls Tryz.prog 60 #[.pointer (some ⟨g, 0, none⟩), .slice h.A h.l.length h.c, .func (.func 61) #[] #[.pointer (some ⟨p, 0, none⟩)]] W (Wro W wa.heap.size g T (l ++ (vint h.l.length ++ h.l.flatMap enc)) (lg || (decide (64 < h.l.length) || h.l.any bad))) := by
  have hb1 := (Below.refl W.heap.size W).alloc (Nat.le_refl _) (.cells #[.func (.func 61) #[] #[.pointer (some ⟨p, 0, none⟩)]] 130)
  have k1 := Blk.new W 130 #[.func (.func 61) #[] #[.pointer (some ⟨p, 0, none⟩)]]
  have hw1 := hw.keep hb1
  have hT1 : ¬ T W.heap.size := fun h => by have := hw.bnd _ h; omega
  have hq1 := hQ T T _ _ hq (Fr.of_below hb1 T) (fun b hb => ⟨.inl hb, Nat.lt_of_lt_of_le (hw.bnd b hb) hb1.size⟩)
  have hgl := hw1.lt
  go_enter Tryz.func60, Tryz.ntmps60
  go_upto_region 1 with fail
  generalize W.alloc (.cells #[.func (.func 61) #[] #[.pointer (some ⟨p, 0, none⟩)]] 130) = W1 at hb1 k1 hw1 hq1 hgl ⊢
  have hB1 := hB.trans (hb1.mono hB.size)
  have hwg := hw1
  obtain ⟨⟨v, kb, hrow, hv⟩, h6, h7, h8⟩ := hwg
  have c1 : W1.cell? ⟨g, 1, none⟩ = some (.bool lg) := kb.cell 1
  have f1 : W1.frozen? ⟨g, 1, none⟩ = false := kb.frozen 1
  have hpg : W.heap.size ≠ g := fun h => by rw [h] at hT1; exact hT1 hw.tg
  have fin : ∀ lg2 : Bool, (lg || decide (64 < h.l.length)) = lg2 → Hid (Calls Tryz.prog 117 #[.pointer (some ⟨g, 0, none⟩), .slice h.A h.l.length h.c, .func (.func 118) #[] #[.pointer (some ⟨W.heap.size, 0, none⟩)]] (W1.setCell ⟨g, 1, none⟩ (.bool lg2)) (Wro W wa.heap.size g T (l ++ (vint h.l.length ++ h.l.flatMap enc)) (lg || (decide (64 < h.l.length) || h.l.any bad)))) := fun lg2 h2 => by
    have hwn := hw1.setLong lg2
    have hfn : Fr T W1 (W1.setCell ⟨g, 1, none⟩ (.bool lg2)) := (Fr.refl T W1).setCell (p := ⟨g, 1, none⟩) (fun _ => hw.tg) _
    have hgn : Grw T T W1 (W1.setCell ⟨g, 1, none⟩ (.bool lg2)) := fun b hb => ⟨.inl hb, hwn.bnd b hb⟩
    have hBn := hB1.trans (hfn.below (fun b hb h => by have := hw.lo b h; omega) hB1.size)
    refine (put_Pc (po := W.heap.size) hh hn hone hM hN hQ (hQ _ _ _ _ hq1 hfn hgn) hwn hBn hl (k1.fr hfn hT1) hT1).mono ?_
    rintro e W9 ⟨rfl, T9, h9, hf9, hg9⟩
    refine ⟨rfl, T9, ?_, (Fr.of_below hb1 T).trans (hfn.trans hf9), (hg9.alloc_left (W0 := W1) hfn.size).alloc_left hb1.size⟩
    rw [← Bool.or_assoc, h2]
    exact h9
  cases hlg : lg with
  | true =>
    have FN := fin true (by rw [hlg]; rfl)
    rw [hlg] at c1
    clear fin hlg
    go_wp2_with fail
    refine FN.out.mono ?_
    rintro e W9 ⟨rfl, h9⟩
    go_wp2_with fail
    go_end0
    exact ⟨rfl, h9⟩
  | false =>
    rw [hlg] at c1
    have FN := fin (decide (64 < (h.l.length : Int))) (by rw [hlg, Bool.false_or]; exact decide_eq_decide.2 (by omega))
    clear fin hlg
    go_wp2_with fail
    refine FN.out.mono ?_
    rintro e W9 ⟨rfl, h9⟩
    go_wp2_with fail
    go_end0
    exact ⟨rfl, h9⟩
set_option maxRecDepth 100000 in
theorem list1_Po {wa : World} {g p po : Nat} {Q : (Nat → Prop) → World → Prop} {enc : List UInt8} {bad : Bool} (x : Po) {N : Nat} (hone : OneW wa g Q 63 #[.agg #[.bool x.q, .bool x.inn, .int .i64 x.size, .int .i64 x.depth], .pointer (some ⟨p, 0, none⟩)] N enc bad) {T : Nat → Prop} {W : World} {l : List UInt8} {lg : Bool}
    (hQ : Stq Q) (hq : Q T W) (hw : WrC W wa.heap.size g T l lg) (hB : Below wa.heap.size wa W) (hl : l.length ≤ N) (ho : Blk W po 134 #[.func (.func 63) #[] #[.pointer (some ⟨p, 0, none⟩)]]) :
    Calls Tryz.prog 120 #[.pointer (some ⟨g, 0, none⟩), .agg #[.bool x.q, .bool x.inn, .int .i64 x.size, .int .i64 x.depth], .pointer (some ⟨po, 0, none⟩)] W (Wro W wa.heap.size g T (l ++ enc) (lg || bad)) := by
  have hb1 := (Below.refl W.heap.size W).alloc (Nat.le_refl _) (.cells #[.bool x.q, .bool x.inn, .int .i64 x.size, .int .i64 x.depth] 133)
  have k1 := Blk.new W 133 #[.bool x.q, .bool x.inn, .int .i64 x.size, .int .i64 x.depth]
  have hw1 := hw.keep hb1
  have ho1 := ho.keep hb1
  have hq1 := hQ T T _ _ hq (Fr.of_below hb1 T) (fun b hb => ⟨.inl hb, Nat.lt_of_lt_of_le (hw.bnd b hb) hb1.size⟩)
  have hB1 := hB.trans (hb1.mono hB.size)
  go_enter Tryz.func120, Tryz.ntmps120
  go_upto_region 1 with fail
  generalize W.alloc (.cells #[.bool x.q, .bool x.inn, .int .i64 x.size, .int .i64 x.depth] 133) = W1 at hb1 k1 hw1 ho1 hq1 hB1 ⊢
  have c0 : W1.cell? ⟨W.heap.size, 0, none⟩ = some (.bool x.q) := k1.cell 0
  have c1 : W1.cell? ⟨W.heap.size, 1, none⟩ = some (.bool x.inn) := k1.cell 1
  have c2 : W1.cell? ⟨W.heap.size, 2, none⟩ = some (.int .i64 x.size) := k1.cell 2
  have c3 : W1.cell? ⟨W.heap.size, 3, none⟩ = some (.int .i64 x.depth) := k1.cell 3
  have hl1 := k1.lt
  have hlo := ho1.lt
  have o0 : W1.cell? ⟨po, 0, none⟩ = some (.func (.func 63) #[] #[.pointer (some ⟨p, 0, none⟩)]) := ho1.cell 0
  go_wp2_with fail
  refine (hone T W1 l lg hq1 hw1 hB1 hl).mono ?_
  rintro e W2 ⟨rfl, h2⟩
  go_wp2_with fail
  go_end0
  exact Wro.below ⟨rfl, h2⟩ hb1
theorem any_snocPo {bad : Po → Bool} {l : List Po} {k : Nat} (h : k < l.length) (lg : Bool) : (lg || (l.take k).any bad || bad (atD Po0 l k)) = (lg || (l.take (k + 1)).any bad) := by
  rw [take_snocG Po0 l k h]
  simp [Bool.or_assoc]
set_option maxRecDepth 100000 in
theorem put_Po {wa : World} {g p po : Nat} {Q : (Nat → Prop) → World → Prop} {enc : Po → List UInt8} {bad : Po → Bool} {h : Hd Po} {N M : Nat} (hh : rdPos.ok wa h) (hn : h.l.length ≤ 100) (hone : ∀ x ∈ h.l, OneW wa g Q 63 #[.agg #[.bool x.q, .bool x.inn, .int .i64 x.size, .int .i64 x.depth], .pointer (some ⟨p, 0, none⟩)] N (enc x) (bad x))
    (hM : ∀ x ∈ h.l, (enc x).length ≤ M) (hN : N ≤ 60000000) {T : Nat → Prop} {W : World} {l : List UInt8} {lg : Bool}
    (hQ : Stq Q) (hq : Q T W) (hw : WrC W wa.heap.size g T l lg) (hB : Below wa.heap.size wa W) (hl : l.length + 11 + 100 * M ≤ N) (ho : Blk W po 134 #[.func (.func 63) #[] #[.pointer (some ⟨p, 0, none⟩)]]) (hpo : ¬ T po) :
    Calls Tryz.prog 119 #[.pointer (some ⟨g, 0, none⟩), .slice h.A h.l.length h.c, .func (.func 120) #[] #[.pointer (some ⟨po, 0, none⟩)]] W (Wro W wa.heap.size g T (l ++ (vint h.l.length ++ h.l.flatMap enc)) (lg || h.l.any bad)) := by
  have hgl := hw.lt
  have hBs := hB.size
  obtain ⟨A, c, hl0⟩ := h
  simp only at hh hn hone hM ⊢
  have hvl := vint_len (hl0.length : Int)
  go_enter Tryz.func119, Tryz.ntmps119
  go_wp2_with fail
  refine (writeIntC_any hw hBs (by omega) (n := (hl0.length : Int)) (by unfold i64; omega)).mono ?_
  rintro e w2 ⟨rfl, T2, h2, hf2, hg2⟩
  go_wp2_with fail
  go_loopw [16] (fun i wr => ∃ (k : Nat) (T' : Nat → Prop), k ≤ hl0.length ∧ i = .int .i64 (k : Int) ∧ WrC wr wa.heap.size g T' ((l ++ vint hl0.length) ++ (hl0.take k).flatMap enc) (lg || (hl0.take k).any bad) ∧ Fr T W wr ∧ Grw T T' W wr) (fun i _ => hl0.length - (intOf i).toNat)
  case atStart => exact ⟨0, T2, Nat.zero_le _, rfl, by simpa using h2, hf2, hg2⟩
  case round =>
    obtain ⟨k, T', hk, rfl, hwr, hfr, hgr⟩ := hrel
    have hqr := hQ _ _ _ _ hq hfr hgr
    have hBr := hB.trans (hfr.below (fun b hb h => by have := hw.lo b h; omega) hBs)
    have hor := ho.fr hfr hpo
    by_cases hlt : k < hl0.length
    · have hT1 := Lib.hid (any_snocPo (bad := bad) hlt lg)
      have hT2 : Hid ((hl0.take (k + 1)).flatMap enc = (hl0.take k).flatMap enc ++ enc (atD Po0 hl0 k)) := by
        unfold Hid
        rw [take_snocG Po0 hl0 k hlt, List.flatMap_append]
        simp
      have hfl : ((hl0.take k).flatMap enc).length ≤ k * M := flat_le enc _ (fun x hx => hM x (List.mem_of_mem_take hx)) k (by rw [List.length_take]; omega)
      have hkM : k * M ≤ 100 * M := Nat.mul_le_mul_right M (by omega)
      have honek := hone _ (atD_mem (d := Po0) hlt)
      obtain ⟨eb, eo, rfl, heb, hec⟩ := (rdPos.keep hh hBr).1.at_ Po0 hlt
      have x0 : wr.cell? ⟨eb, eo + k * 4, none⟩ = some (.bool (atD Po0 hl0 k).q) := hec 0 _ rfl
      have x1 : wr.cell? ⟨eb, eo + k * 4 + 1, none⟩ = some (.bool (atD Po0 hl0 k).inn) := hec 1 _ rfl
      have x2 : wr.cell? ⟨eb, eo + k * 4 + 2, none⟩ = some (.int .i64 (atD Po0 hl0 k).size) := hec 2 _ rfl
      have x3 : wr.cell? ⟨eb, eo + k * 4 + 3, none⟩ = some (.int .i64 (atD Po0 hl0 k).depth) := hec 3 _ rfl
      clear hec
      generalize atD Po0 hl0 k = x at x0 x1 x2 x3 hT1 hT2 honek
      have hb3 := (Below.refl wr.heap.size wr).alloc (Nat.le_refl _) (.cells #[.bool x.q, .bool x.inn, .int .i64 x.size, .int .i64 x.depth] 133)
      have k3 := Blk.new wr 133 #[.bool x.q, .bool x.inn, .int .i64 x.size, .int .i64 x.depth]
      go_upto_region 5 with fail
      generalize wr.alloc (.cells #[.bool x.q, .bool x.inn, .int .i64 x.size, .int .i64 x.depth] 133) = w3 at hb3 k3 ⊢
      have hw3 := hwr.keep hb3
      have ho3 := hor.keep hb3
      have hq3 := hQ T' T' _ _ hqr (Fr.of_below hb3 T') (fun b hb => ⟨.inl hb, Nat.lt_of_lt_of_le (hwr.bnd b hb) hb3.size⟩)
      have hB3 := hBr.trans (hb3.mono hBr.size)
      have y0 : w3.cell? ⟨wr.heap.size, 0, none⟩ = some (.bool x.q) := k3.cell 0
      have y1 : w3.cell? ⟨wr.heap.size, 1, none⟩ = some (.bool x.inn) := k3.cell 1
      have y2 : w3.cell? ⟨wr.heap.size, 2, none⟩ = some (.int .i64 x.size) := k3.cell 2
      have y3 : w3.cell? ⟨wr.heap.size, 3, none⟩ = some (.int .i64 x.depth) := k3.cell 3
      have hl3 := k3.lt
      clear x0 x1 x2 x3
      go_wp2_with fail
      refine (list1_Po (po := po) x honek hQ hq3 hw3 hB3 (by simp only [List.length_append]; omega) ho3).mono ?_
      rintro e w4 ⟨rfl, T4, h4, hf4, hg4⟩
      go_wp2_with fail
      refine ⟨⟨k + 1, T4, by omega, by go_num, ?_, hfr.grw hgr ((Fr.of_below hb3 T').trans hf4), hgr.trans hfr.size (hg4.alloc_left hb3.size)⟩, by simp [intOf]; omega⟩
      rw [hT2.out, ← hT1.out, ← List.append_assoc]
      exact h4
    · obtain rfl : k = hl0.length := by omega
      have HT : Hid (hl0.take hl0.length = hl0) := List.take_length
      rw [HT.out, List.append_assoc] at hwr
      go_wp2_with fail
      go_end0
      exact ⟨rfl, T', hwr, hfr, hgr⟩
set_option maxRecDepth 100000 in
theorem list_Po {wa : World} {g p : Nat} {Q : (Nat → Prop) → World → Prop} {enc : Po → List UInt8} {bad : Po → Bool} {h : Hd Po} {N M : Nat} (hh : rdPos.ok wa h) (hn : h.l.length ≤ 100) (hone : ∀ x ∈ h.l, OneW wa g Q 63 #[.agg #[.bool x.q, .bool x.inn, .int .i64 x.size, .int .i64 x.depth], .pointer (some ⟨p, 0, none⟩)] N (enc x) (bad x))
    (hM : ∀ x ∈ h.l, (enc x).length ≤ M) (hN : N ≤ 60000000) {T : Nat → Prop} {W : World} {l : List UInt8} {lg : Bool}
    (hQ : Stq Q) (hq : Q T W) (hw : WrC W wa.heap.size g T l lg) (hB : Below wa.heap.size wa W) (hl : l.length + 11 + 100 * M ≤ N) :
    Calls Tryz.prog 62 #[.pointer (some ⟨g, 0, none⟩), .slice h.A h.l.length h.c, .func (.func 63) #[] #[.pointer (some ⟨p, 0, none⟩)]] W (Wro W wa.heap.size g T (l ++ (vint h.l.length ++ h.l.flatMap enc)) (lg || (decide (64 < h.l.length) || h.l.any bad))) := by
  have hb1 := (Below.refl W.heap.size W).alloc (Nat.le_refl _) (.cells #[.func (.func 63) #[] #[.pointer (some ⟨p, 0, none⟩)]] 134)
  have k1 := Blk.new W 134 #[.func (.func 63) #[] #[.pointer (some ⟨p, 0, none⟩)]]
  have hw1 := hw.keep hb1
  have hT1 : ¬ T W.heap.size := fun h => by have := hw.bnd _ h; omega
  have hq1 := hQ T T _ _ hq (Fr.of_below hb1 T) (fun b hb => ⟨.inl hb, Nat.lt_of_lt_of_le (hw.bnd b hb) hb1.size⟩)
  have hgl := hw1.lt
  go_enter Tryz.func62, Tryz.ntmps62
  go_upto_region 1 with fail
  generalize W.alloc (.cells #[.func (.func 63) #[] #[.pointer (some ⟨p, 0, none⟩)]] 134) = W1 at hb1 k1 hw1 hq1 hgl ⊢
  have hB1 := hB.trans (hb1.mono hB.size)
  have hwg := hw1
  obtain ⟨⟨v, kb, hrow, hv⟩, h6, h7, h8⟩ := hwg
  have c1 : W1.cell? ⟨g, 1, none⟩ = some (.bool lg) := kb.cell 1
  have f1 : W1.frozen? ⟨g, 1, none⟩ = false := kb.frozen 1
  have hpg : W.heap.size ≠ g := fun h => by rw [h] at hT1; exact hT1 hw.tg
  have fin : ∀ lg2 : Bool, (lg || decide (64 < h.l.length)) = lg2 → Hid (Calls Tryz.prog 119 #[.pointer (some ⟨g, 0, none⟩), .slice h.A h.l.length h.c, .func (.func 120) #[] #[.pointer (some ⟨W.heap.size, 0, none⟩)]] (W1.setCell ⟨g, 1, none⟩ (.bool lg2)) (Wro W wa.heap.size g T (l ++ (vint h.l.length ++ h.l.flatMap enc)) (lg || (decide (64 < h.l.length) || h.l.any bad)))) := fun lg2 h2 => by
    have hwn := hw1.setLong lg2
    have hfn : Fr T W1 (W1.setCell ⟨g, 1, none⟩ (.bool lg2)) := (Fr.refl T W1).setCell (p := ⟨g, 1, none⟩) (fun _ => hw.tg) _
    have hgn : Grw T T W1 (W1.setCell ⟨g, 1, none⟩ (.bool lg2)) := fun b hb => ⟨.inl hb, hwn.bnd b hb⟩
    have hBn := hB1.trans (hfn.below (fun b hb h => by have := hw.lo b h; omega) hB1.size)
    refine (put_Po (po := W.heap.size) hh hn hone hM hN hQ (hQ _ _ _ _ hq1 hfn hgn) hwn hBn hl (k1.fr hfn hT1) hT1).mono ?_
    rintro e W9 ⟨rfl, T9, h9, hf9, hg9⟩
    refine ⟨rfl, T9, ?_, (Fr.of_below hb1 T).trans (hfn.trans hf9), (hg9.alloc_left (W0 := W1) hfn.size).alloc_left hb1.size⟩
    rw [← Bool.or_assoc, h2]
    exact h9
  cases hlg : lg with
  | true =>
    have FN := fin true (by rw [hlg]; rfl)
    rw [hlg] at c1
    clear fin hlg
    go_wp2_with fail
    refine FN.out.mono ?_
    rintro e W9 ⟨rfl, h9⟩
    go_wp2_with fail
    go_end0
    exact ⟨rfl, h9⟩
  | false =>
    rw [hlg] at c1
    have FN := fin (decide (64 < (h.l.length : Int))) (by rw [hlg, Bool.false_or]; exact decide_eq_decide.2 (by omega))
    clear fin hlg
    go_wp2_with fail
    refine FN.out.mono ?_
    rintro e W9 ⟨rfl, h9⟩
    go_wp2_with fail
    go_end0
    exact ⟨rfl, h9⟩
set_option maxRecDepth 100000 in
theorem list1_Sm {wa : World} {g p po : Nat} {Q : (Nat → Prop) → World → Prop} {enc : List UInt8} {bad : Bool} (x : Sm) {N : Nat} (hone : OneW wa g Q 65 #[.agg #[.int .i64 x.first, .int .i64 x.most], .pointer (some ⟨p, 0, none⟩)] N enc bad) {T : Nat → Prop} {W : World} {l : List UInt8} {lg : Bool}
    (hQ : Stq Q) (hq : Q T W) (hw : WrC W wa.heap.size g T l lg) (hB : Below wa.heap.size wa W) (hl : l.length ≤ N) (ho : Blk W po 138 #[.func (.func 65) #[] #[.pointer (some ⟨p, 0, none⟩)]]) :
    Calls Tryz.prog 122 #[.pointer (some ⟨g, 0, none⟩), .agg #[.int .i64 x.first, .int .i64 x.most], .pointer (some ⟨po, 0, none⟩)] W (Wro W wa.heap.size g T (l ++ enc) (lg || bad)) := by
  have hb1 := (Below.refl W.heap.size W).alloc (Nat.le_refl _) (.cells #[.int .i64 x.first, .int .i64 x.most] 137)
  have k1 := Blk.new W 137 #[.int .i64 x.first, .int .i64 x.most]
  have hw1 := hw.keep hb1
  have ho1 := ho.keep hb1
  have hq1 := hQ T T _ _ hq (Fr.of_below hb1 T) (fun b hb => ⟨.inl hb, Nat.lt_of_lt_of_le (hw.bnd b hb) hb1.size⟩)
  have hB1 := hB.trans (hb1.mono hB.size)
  go_enter Tryz.func122, Tryz.ntmps122
  go_upto_region 1 with fail
  generalize W.alloc (.cells #[.int .i64 x.first, .int .i64 x.most] 137) = W1 at hb1 k1 hw1 ho1 hq1 hB1 ⊢
  have c0 : W1.cell? ⟨W.heap.size, 0, none⟩ = some (.int .i64 x.first) := k1.cell 0
  have c1 : W1.cell? ⟨W.heap.size, 1, none⟩ = some (.int .i64 x.most) := k1.cell 1
  have hl1 := k1.lt
  have hlo := ho1.lt
  have o0 : W1.cell? ⟨po, 0, none⟩ = some (.func (.func 65) #[] #[.pointer (some ⟨p, 0, none⟩)]) := ho1.cell 0
  go_wp2_with fail
  refine (hone T W1 l lg hq1 hw1 hB1 hl).mono ?_
  rintro e W2 ⟨rfl, h2⟩
  go_wp2_with fail
  go_end0
  exact Wro.below ⟨rfl, h2⟩ hb1
theorem any_snocSm {bad : Sm → Bool} {l : List Sm} {k : Nat} (h : k < l.length) (lg : Bool) : (lg || (l.take k).any bad || bad (atD Sm0 l k)) = (lg || (l.take (k + 1)).any bad) := by
  rw [take_snocG Sm0 l k h]
  simp [Bool.or_assoc]
set_option maxRecDepth 100000 in
theorem put_Sm {wa : World} {g p po : Nat} {Q : (Nat → Prop) → World → Prop} {enc : Sm → List UInt8} {bad : Sm → Bool} {h : Hd Sm} {N M : Nat} (hh : rdSms.ok wa h) (hn : h.l.length ≤ 100) (hone : ∀ x ∈ h.l, OneW wa g Q 65 #[.agg #[.int .i64 x.first, .int .i64 x.most], .pointer (some ⟨p, 0, none⟩)] N (enc x) (bad x))
    (hM : ∀ x ∈ h.l, (enc x).length ≤ M) (hN : N ≤ 60000000) {T : Nat → Prop} {W : World} {l : List UInt8} {lg : Bool}
    (hQ : Stq Q) (hq : Q T W) (hw : WrC W wa.heap.size g T l lg) (hB : Below wa.heap.size wa W) (hl : l.length + 11 + 100 * M ≤ N) (ho : Blk W po 138 #[.func (.func 65) #[] #[.pointer (some ⟨p, 0, none⟩)]]) (hpo : ¬ T po) :
    Calls Tryz.prog 121 #[.pointer (some ⟨g, 0, none⟩), .slice h.A h.l.length h.c, .func (.func 122) #[] #[.pointer (some ⟨po, 0, none⟩)]] W (Wro W wa.heap.size g T (l ++ (vint h.l.length ++ h.l.flatMap enc)) (lg || h.l.any bad)) := by
  have hgl := hw.lt
  have hBs := hB.size
  obtain ⟨A, c, hl0⟩ := h
  simp only at hh hn hone hM ⊢
  have hvl := vint_len (hl0.length : Int)
  go_enter Tryz.func121, Tryz.ntmps121
  go_wp2_with fail
  refine (writeIntC_any hw hBs (by omega) (n := (hl0.length : Int)) (by unfold i64; omega)).mono ?_
  rintro e w2 ⟨rfl, T2, h2, hf2, hg2⟩
  go_wp2_with fail
  go_loopw [16] (fun i wr => ∃ (k : Nat) (T' : Nat → Prop), k ≤ hl0.length ∧ i = .int .i64 (k : Int) ∧ WrC wr wa.heap.size g T' ((l ++ vint hl0.length) ++ (hl0.take k).flatMap enc) (lg || (hl0.take k).any bad) ∧ Fr T W wr ∧ Grw T T' W wr) (fun i _ => hl0.length - (intOf i).toNat)
  case atStart => exact ⟨0, T2, Nat.zero_le _, rfl, by simpa using h2, hf2, hg2⟩
  case round =>
    obtain ⟨k, T', hk, rfl, hwr, hfr, hgr⟩ := hrel
    have hqr := hQ _ _ _ _ hq hfr hgr
    have hBr := hB.trans (hfr.below (fun b hb h => by have := hw.lo b h; omega) hBs)
    have hor := ho.fr hfr hpo
    by_cases hlt : k < hl0.length
    · have hT1 := Lib.hid (any_snocSm (bad := bad) hlt lg)
      have hT2 : Hid ((hl0.take (k + 1)).flatMap enc = (hl0.take k).flatMap enc ++ enc (atD Sm0 hl0 k)) := by
        unfold Hid
        rw [take_snocG Sm0 hl0 k hlt, List.flatMap_append]
        simp
      have hfl : ((hl0.take k).flatMap enc).length ≤ k * M := flat_le enc _ (fun x hx => hM x (List.mem_of_mem_take hx)) k (by rw [List.length_take]; omega)
      have hkM : k * M ≤ 100 * M := Nat.mul_le_mul_right M (by omega)
      have honek := hone _ (atD_mem (d := Sm0) hlt)
      obtain ⟨eb, eo, rfl, heb, hec⟩ := (rdSms.keep hh hBr).1.at_ Sm0 hlt
      have x0 : wr.cell? ⟨eb, eo + k * 2, none⟩ = some (.int .i64 (atD Sm0 hl0 k).first) := hec 0 _ rfl
      have x1 : wr.cell? ⟨eb, eo + k * 2 + 1, none⟩ = some (.int .i64 (atD Sm0 hl0 k).most) := hec 1 _ rfl
      clear hec
      generalize atD Sm0 hl0 k = x at x0 x1 hT1 hT2 honek
      have hb3 := (Below.refl wr.heap.size wr).alloc (Nat.le_refl _) (.cells #[.int .i64 x.first, .int .i64 x.most] 137)
      have k3 := Blk.new wr 137 #[.int .i64 x.first, .int .i64 x.most]
      go_upto_region 5 with fail
      generalize wr.alloc (.cells #[.int .i64 x.first, .int .i64 x.most] 137) = w3 at hb3 k3 ⊢
      have hw3 := hwr.keep hb3
      have ho3 := hor.keep hb3
      have hq3 := hQ T' T' _ _ hqr (Fr.of_below hb3 T') (fun b hb => ⟨.inl hb, Nat.lt_of_lt_of_le (hwr.bnd b hb) hb3.size⟩)
      have hB3 := hBr.trans (hb3.mono hBr.size)
      have y0 : w3.cell? ⟨wr.heap.size, 0, none⟩ = some (.int .i64 x.first) := k3.cell 0
      have y1 : w3.cell? ⟨wr.heap.size, 1, none⟩ = some (.int .i64 x.most) := k3.cell 1
      have hl3 := k3.lt
      clear x0 x1
      go_wp2_with fail
      refine (list1_Sm (po := po) x honek hQ hq3 hw3 hB3 (by simp only [List.length_append]; omega) ho3).mono ?_
      rintro e w4 ⟨rfl, T4, h4, hf4, hg4⟩
      go_wp2_with fail
      refine ⟨⟨k + 1, T4, by omega, by go_num, ?_, hfr.grw hgr ((Fr.of_below hb3 T').trans hf4), hgr.trans hfr.size (hg4.alloc_left hb3.size)⟩, by simp [intOf]; omega⟩
      rw [hT2.out, ← hT1.out, ← List.append_assoc]
      exact h4
    · obtain rfl : k = hl0.length := by omega
      have HT : Hid (hl0.take hl0.length = hl0) := List.take_length
      rw [HT.out, List.append_assoc] at hwr
      go_wp2_with fail
      go_end0
      exact ⟨rfl, T', hwr, hfr, hgr⟩
set_option maxRecDepth 100000 in
theorem list_Sm {wa : World} {g p : Nat} {Q : (Nat → Prop) → World → Prop} {enc : Sm → List UInt8} {bad : Sm → Bool} {h : Hd Sm} {N M : Nat} (hh : rdSms.ok wa h) (hn : h.l.length ≤ 100) (hone : ∀ x ∈ h.l, OneW wa g Q 65 #[.agg #[.int .i64 x.first, .int .i64 x.most], .pointer (some ⟨p, 0, none⟩)] N (enc x) (bad x))
    (hM : ∀ x ∈ h.l, (enc x).length ≤ M) (hN : N ≤ 60000000) {T : Nat → Prop} {W : World} {l : List UInt8} {lg : Bool}
    (hQ : Stq Q) (hq : Q T W) (hw : WrC W wa.heap.size g T l lg) (hB : Below wa.heap.size wa W) (hl : l.length + 11 + 100 * M ≤ N) :
    Calls Tryz.prog 64 #[.pointer (some ⟨g, 0, none⟩), .slice h.A h.l.length h.c, .func (.func 65) #[] #[.pointer (some ⟨p, 0, none⟩)]] W (Wro W wa.heap.size g T (l ++ (vint h.l.length ++ h.l.flatMap enc)) (lg || (decide (64 < h.l.length) || h.l.any bad))) := by
  have hb1 := (Below.refl W.heap.size W).alloc (Nat.le_refl _) (.cells #[.func (.func 65) #[] #[.pointer (some ⟨p, 0, none⟩)]] 138)
  have k1 := Blk.new W 138 #[.func (.func 65) #[] #[.pointer (some ⟨p, 0, none⟩)]]
  have hw1 := hw.keep hb1
  have hT1 : ¬ T W.heap.size := fun h => by have := hw.bnd _ h; omega
  have hq1 := hQ T T _ _ hq (Fr.of_below hb1 T) (fun b hb => ⟨.inl hb, Nat.lt_of_lt_of_le (hw.bnd b hb) hb1.size⟩)
  have hgl := hw1.lt
  go_enter Tryz.func64, Tryz.ntmps64
  go_upto_region 1 with fail
  generalize W.alloc (.cells #[.func (.func 65) #[] #[.pointer (some ⟨p, 0, none⟩)]] 138) = W1 at hb1 k1 hw1 hq1 hgl ⊢
  have hB1 := hB.trans (hb1.mono hB.size)
  have hwg := hw1
  obtain ⟨⟨v, kb, hrow, hv⟩, h6, h7, h8⟩ := hwg
  have c1 : W1.cell? ⟨g, 1, none⟩ = some (.bool lg) := kb.cell 1
  have f1 : W1.frozen? ⟨g, 1, none⟩ = false := kb.frozen 1
  have hpg : W.heap.size ≠ g := fun h => by rw [h] at hT1; exact hT1 hw.tg
  have fin : ∀ lg2 : Bool, (lg || decide (64 < h.l.length)) = lg2 → Hid (Calls Tryz.prog 121 #[.pointer (some ⟨g, 0, none⟩), .slice h.A h.l.length h.c, .func (.func 122) #[] #[.pointer (some ⟨W.heap.size, 0, none⟩)]] (W1.setCell ⟨g, 1, none⟩ (.bool lg2)) (Wro W wa.heap.size g T (l ++ (vint h.l.length ++ h.l.flatMap enc)) (lg || (decide (64 < h.l.length) || h.l.any bad)))) := fun lg2 h2 => by
    have hwn := hw1.setLong lg2
    have hfn : Fr T W1 (W1.setCell ⟨g, 1, none⟩ (.bool lg2)) := (Fr.refl T W1).setCell (p := ⟨g, 1, none⟩) (fun _ => hw.tg) _
    have hgn : Grw T T W1 (W1.setCell ⟨g, 1, none⟩ (.bool lg2)) := fun b hb => ⟨.inl hb, hwn.bnd b hb⟩
    have hBn := hB1.trans (hfn.below (fun b hb h => by have := hw.lo b h; omega) hB1.size)
    refine (put_Sm (po := W.heap.size) hh hn hone hM hN hQ (hQ _ _ _ _ hq1 hfn hgn) hwn hBn hl (k1.fr hfn hT1) hT1).mono ?_
    rintro e W9 ⟨rfl, T9, h9, hf9, hg9⟩
    refine ⟨rfl, T9, ?_, (Fr.of_below hb1 T).trans (hfn.trans hf9), (hg9.alloc_left (W0 := W1) hfn.size).alloc_left hb1.size⟩
    rw [← Bool.or_assoc, h2]
    exact h9
  cases hlg : lg with
  | true =>
    have FN := fin true (by rw [hlg]; rfl)
    rw [hlg] at c1
    clear fin hlg
    go_wp2_with fail
    refine FN.out.mono ?_
    rintro e W9 ⟨rfl, h9⟩
    go_wp2_with fail
    go_end0
    exact ⟨rfl, h9⟩
  | false =>
    rw [hlg] at c1
    have FN := fin (decide (64 < (h.l.length : Int))) (by rw [hlg, Bool.false_or]; exact decide_eq_decide.2 (by omega))
    clear fin hlg
    go_wp2_with fail
    refine FN.out.mono ?_
    rintro e W9 ⟨rfl, h9⟩
    go_wp2_with fail
    go_end0
    exact ⟨rfl, h9⟩
end Go.Proofs.YtahjnonkhbpnpaaGreat
