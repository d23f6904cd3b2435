/- Words and walks for the claims of this seat, merged: RcSpec, RdMore, RcDec, SmEq0, SmEq1, SmBase, CnLaw, CnSame. -/
import Derived.Laws.StructEq
import Derived.Test.YtahjnonkhbpnpaaGreatCm1
import Derived.Test.YtahjnonkhbpnpaaGreatCm2
import Derived.Test.YtahjnonkhbpnpaaGreatCm3
import Derived.Test.YtahjnonkhbpnpaaGreatCm4
import Derived.Test.YtahjnonkhbpnpaaGreatCm5
/- Reading a configuration: what is left of the bytes behind each thing that is read (the plain law), and which blocks a thing's cells lie in. -/
namespace Go.Proofs.YtahjnonkhbpnpaaGreat
open Go.RowKit
/-! ### What is left -/
def kI (s : RS) : RS := (gInt s).2
def kB (s : RS) : RS := (gBool s).2
def kHead (s : RS) : RS := if (gInt s).1 < 0 ∨ 64 < (gInt s).1 then errS (gInt s).2 3 else (gInt s).2
def kRep (f : RS → RS) : Nat → RS → RS
  | 0, s => s
  | n + 1, s => if s.e ≠ 0 then s else kRep f n (f s)
def kL (f : RS → RS) (s : RS) : RS := kRep f (gInt s).1.toNat (kHead s)
def kRg (s : RS) : RS := kB (kI (kI s))
def k2 (s : RS) : RS := kI (kI s)
def k3 (s : RS) : RS := kI (kI (kI s))
def k4 (s : RS) : RS := kI (kI (kI (kI s)))
def kPo (s : RS) : RS := kI (kI (kB (kB s)))
def kPt (s : RS) : RS := kL kI (k3 (kL kI (kL k2 (kI (kL k2 (kL kPo (kL k3 (kL kRg s))))))))
def kMd (s : RS) : RS := kL k3 (kI s)
def kPw (s : RS) : RS := k3 (k3 (kL k3 (kL k2 s)))
def kCf (s : RS) : RS := kL kI (kL kI (kPw (kL kMd (kL k4 (kL kPt s)))))
theorem kRep_err {f : RS → RS} {n : Nat} {s : RS} (h : s.e ≠ 0) : kRep f n s = s := by
  cases n with
  | zero => rfl
  | succ n => rw [kRep, if_pos h]
theorem kRep_more {f : RS → RS} {n : Nat} {s : RS} (h : s.e = 0) : kRep f (n + 1) s = kRep f n (f s) := by
  rw [kRep, if_neg (by simpa using h)]
/-! ### Which blocks -/
structure Ft {P : Program} {t : TypeId} {α : Type} (r : Rd P t α) where
  blk : α → Nat → Prop
  fr : ∀ {S : Nat → Prop} {W W' : World} {x : α}, r.ok W x → Fr S W W' → (∀ b, blk x b → ¬ S b) → r.ok W' x
  lt : ∀ {W : World} {x : α} {b : Nat}, r.ok W x → blk x b → b < W.heap.size
def ftInt : Ft rdInt := ⟨fun _ _ => False, fun h _ _ => h, fun _ h => h.elim⟩
def ftInts : Ft rdInts := ⟨fun h b => 0 < h.l.length ∧ ∃ o, h.A = some ⟨b, o, none⟩, fun h hf hn => ⟨h.1.fr hf (fun b o h0 e => hn b ⟨h0, o, e⟩), h.2⟩, fun h ⟨h0, o, e⟩ => by
  obtain ⟨b', o', e', hb, _⟩ := h.1.at_ h0
  rw [e] at e'
  cases e'
  exact hb⟩
section
variable {P : Program} {α : Type} {e t : TypeId} {r : Rd P e α}
def blkH (f : Ft r) (h : Hd α) (b : Nat) : Prop := (0 < h.l.length ∧ ∃ o, h.A = some ⟨b, o, none⟩) ∨ ∃ x ∈ h.l, f.blk x b
theorem okH_fr (f : Ft r) {S : Nat → Prop} {W W' : World} {h : Hd α} (H : h.ok r W) (hf : Fr S W W') (hn : ∀ b, blkH f h b → ¬ S b) : h.ok r W' :=
  ⟨H.1.fr hf (fun b o h0 e => hn b (.inl ⟨h0, o, e⟩)), fun x hx => f.fr (H.2 x hx) hf (fun b hb => hn b (.inr ⟨x, hx, hb⟩))⟩
theorem okH_lt (f : Ft r) {W : World} {h : Hd α} {b : Nat} (H : h.ok r W) (hb : blkH f h b) : b < W.heap.size := by
  rcases hb with ⟨h0, o, e⟩ | ⟨x, hx, hb⟩
  · obtain ⟨b', o', e', hlt, _⟩ := H.1.1.at_ h0
    rw [e] at e'
    cases e'
    exact hlt
  · exact f.lt (H.2 x hx) hb
def ftSl (f : Ft r) (ht : P.underlying t = some (.slice e)) (hC : P.cellsOf e = r.sz) (hs : 0 < r.sz) : Ft (rdSl t r ht hC hs) := ⟨blkH f, fun H hf hn => okH_fr f H hf hn, fun H hb => okH_lt f H hb⟩
end
noncomputable def ftRg : Ft rdRg := ⟨fun _ _ => False, fun h _ _ => h, fun _ h => h.elim⟩
noncomputable def ftPc : Ft rdPc := ⟨fun _ _ => False, fun h _ _ => h, fun _ h => h.elim⟩
noncomputable def ftPo : Ft rdPo := ⟨fun _ _ => False, fun h _ _ => h, fun _ h => h.elim⟩
noncomputable def ftSm : Ft rdSm := ⟨fun _ _ => False, fun h _ _ => h, fun _ h => h.elim⟩
noncomputable def ftPl : Ft rdPl := ⟨fun _ _ => False, fun h _ _ => h, fun _ h => h.elim⟩
noncomputable def ftWn : Ft rdWn := ⟨fun _ _ => False, fun h _ _ => h, fun _ h => h.elim⟩
noncomputable def ftLv : Ft rdLv := ⟨fun _ _ => False, fun h _ _ => h, fun _ h => h.elim⟩
noncomputable def ftNp : Ft rdNp := ⟨fun _ _ => False, fun h _ _ => h, fun _ h => h.elim⟩
noncomputable def ftCh : Ft rdCh := ⟨fun _ _ => False, fun h _ _ => h, fun _ h => h.elim⟩
noncomputable def blkPt (x : Pt) (b : Nat) : Prop := blkH ftRg x.regs b ∨ blkH ftPc x.procs b ∨ blkH ftPo x.ports b ∨ blkH ftSm x.sems b ∨ blkH ftPl x.pools b ∨ ftInts.blk x.slates b ∨ ftInts.blk x.acts b
noncomputable def ftPt : Ft rdPt := ⟨blkPt, fun h hf hn =>
  ⟨okH_fr ftRg h.1 hf (fun b hb => hn b (.inl hb)), okH_fr ftPc h.2.1 hf (fun b hb => hn b (.inr (.inl hb))), okH_fr ftPo h.2.2.1 hf (fun b hb => hn b (.inr (.inr (.inl hb)))), okH_fr ftSm h.2.2.2.1 hf (fun b hb => hn b (.inr (.inr (.inr (.inl hb))))),
   h.2.2.2.2.1, okH_fr ftPl h.2.2.2.2.2.1 hf (fun b hb => hn b (.inr (.inr (.inr (.inr (.inl hb)))))), ftInts.fr h.2.2.2.2.2.2.1 hf (fun b hb => hn b (.inr (.inr (.inr (.inr (.inr (.inl hb))))))), h.2.2.2.2.2.2.2.1, h.2.2.2.2.2.2.2.2.1, h.2.2.2.2.2.2.2.2.2.1,
   ftInts.fr h.2.2.2.2.2.2.2.2.2.2 hf (fun b hb => hn b (.inr (.inr (.inr (.inr (.inr (.inr hb)))))))⟩, fun h hb => by
  rcases hb with hb | hb | hb | hb | hb | hb | hb
  · exact okH_lt ftRg h.1 hb
  · exact okH_lt ftPc h.2.1 hb
  · exact okH_lt ftPo h.2.2.1 hb
  · exact okH_lt ftSm h.2.2.2.1 hb
  · exact okH_lt ftPl h.2.2.2.2.2.1 hb
  · exact ftInts.lt h.2.2.2.2.2.2.1 hb
  · exact ftInts.lt h.2.2.2.2.2.2.2.2.2.2 hb⟩
noncomputable def ftMd : Ft rdMd := ⟨fun x b => blkH ftWn x.wins b, fun h hf hn => ⟨h.1, okH_fr ftWn h.2 hf hn⟩, fun h hb => okH_lt ftWn h.2 hb⟩
noncomputable def ftPw : Ft rdPw := ⟨fun x b => blkH ftLv x.levels b ∨ blkH ftNp x.naps b, fun h hf hn => ⟨okH_fr ftLv h.1 hf (fun b hb => hn b (.inl hb)), okH_fr ftNp h.2.1 hf (fun b hb => hn b (.inr hb)), h.2.2⟩, fun h hb => hb.elim (okH_lt ftLv h.1) (okH_lt ftNp h.2.1)⟩
noncomputable def blkCf (x : Cf) (b : Nat) : Prop := blkH ftPt x.parts b ∨ blkH ftCh x.chans b ∨ blkH ftMd x.modes b ∨ ftPw.blk x.pw b ∨ ftInts.blk x.shed.down b ∨ ftInts.blk x.shed.up b
noncomputable def ftCf : Ft rdCf := ⟨blkCf, fun h hf hn =>
  ⟨okH_fr ftPt h.1 hf (fun b hb => hn b (.inl hb)), okH_fr ftCh h.2.1 hf (fun b hb => hn b (.inr (.inl hb))), okH_fr ftMd h.2.2.1 hf (fun b hb => hn b (.inr (.inr (.inl hb)))), ftPw.fr h.2.2.2.1 hf (fun b hb => hn b (.inr (.inr (.inr (.inl hb))))),
   ⟨ftInts.fr h.2.2.2.2.1 hf (fun b hb => hn b (.inr (.inr (.inr (.inr (.inl hb)))))), ftInts.fr h.2.2.2.2.2 hf (fun b hb => hn b (.inr (.inr (.inr (.inr (.inr hb))))))⟩⟩, fun h hb => by
  rcases hb with hb | hb | hb | hb | hb | hb
  · exact okH_lt ftPt h.1 hb
  · exact okH_lt ftCh h.2.1 hb
  · exact okH_lt ftMd h.2.2.1 hb
  · exact ftPw.lt h.2.2.2.1 hb
  · exact ftInts.lt h.2.2.2.2.1 hb
  · exact ftInts.lt h.2.2.2.2.2 hb⟩
/-! ### What a reader of one thing does -/
def OneR {t : TypeId} {α : Type} {r : Rd Tryz.prog t α} (f : Ft r) (F : FuncId) (v : α → Value) (enc : α → List UInt8) (bad : α → Bool) (k : RS → RS) : Prop :=
  ∀ (w : World) (g B : Nat) (s : RS), RdSt w g B s → Calls Tryz.prog F #[.pointer (some ⟨g, 0, none⟩)] w fun e w' =>
    ∃ x : α, e = .returned (v x) ∧ r.ok w' x ∧ (∀ b, f.blk x b → w.heap.size ≤ b) ∧ RdSt w' g B (k s) ∧ Fr (fun q => q = g) w w' ∧ Hid ((k s).e = 0 → s.l = enc x ++ (k s).l ∧ bad x = false)
/-- what a reader of a list does -/
def ListR {t : TypeId} {α : Type} {r : Rd Tryz.prog t α} (f : Ft r) (F : FuncId) (args : Nat → Array Value) (enc : α → List UInt8) (bad : α → Bool) (k : RS → RS) : Prop :=
  ∀ (w : World) (g B : Nat) (s : RS), RdSt w g B s → Calls Tryz.prog F (args g) w fun e w' =>
    ∃ h : Hd α, e = .returned h.v ∧ h.ok r w' ∧ (∀ b, blkH f h b → w.heap.size ≤ b) ∧ RdSt w' g B (kL k s) ∧ Fr (fun q => q = g) w w' ∧ Hid ((kL k s).e = 0 → s.l = lst enc h.l ++ (kL k s).l ∧ badL bad h.l = false)
theorem gBool_inv {s : RS} (h : (gBool s).2.e = 0) : s.e = 0 ∧ s.l = vbool (gBool s).1 ++ (gBool s).2.l := by
  obtain ⟨l, e⟩ := s
  by_cases h0 : e = 0
  · subst h0
    cases l with
    | nil => exact absurd h (by decide)
    | cons y r =>
      unfold gBool at h ⊢
      simp only [ne_eq, not_true_eq_false, if_false] at h ⊢
      split at h
      · simp at h
      · rename_i h1
        rw [if_neg h1]
        refine ⟨trivial, ?_⟩
        by_cases hy : y.toNat = 1
        · simp only [hy, decide_true, vbool]
          have : y = 1 := UInt8.toNat_inj.1 hy
          subst this
          rfl
        · have hy0 : y = 0 := UInt8.toNat_inj.1 (by show y.toNat = 0; omega)
          subst hy0
          rfl
  · have hg : gBool ⟨l, e⟩ = (false, ⟨l, e⟩) := by unfold gBool; rw [if_pos h0]
    rw [hg] at h
    exact absurd h h0
theorem kL_err {f : RS → RS} {s : RS} (h : s.e ≠ 0) : kL f s = s := by
  have hg : gInt s = (0, s) := by unfold gInt; rw [if_pos h]
  unfold kL kHead
  rw [hg]
  rfl
theorem kL_stick {f : RS → RS} {s : RS} (h : (kL f s).e = 0) : s.e = 0 := by
  by_cases h0 : s.e = 0
  · exact h0
  · rw [kL_err h0] at h
    exact absurd h h0
theorem kI_stick {s : RS} (h : (kI s).e = 0) : s.e = 0 := (gInt_inv h).1
theorem k2_stick {s : RS} (h : (k2 s).e = 0) : s.e = 0 := kI_stick (kI_stick h)
theorem kPw_stick {s : RS} (h : (kPw s).e = 0) : s.e = 0 := kL_stick (kL_stick (kI_stick (kI_stick (kI_stick (kI_stick (kI_stick (kI_stick h)))))))
theorem intsB_cons (x : Int) (l : List Int) : intsB (x :: l) = vint x ++ intsB l := rfl
theorem intsB_nil : intsB [] = [] := rfl
theorem RgG_info : (Tryz.prog.info? 124).map (fun i => (i.zero, i.size, i.bytes)) = some (some (.agg #[.int .i64 0, .int .i64 0, .bool false]), 3, 24) := by kernel_rfl
theorem PcG_info : (Tryz.prog.info? 129).map (fun i => (i.zero, i.size, i.bytes)) = some (some (.agg #[.int .i64 0, .int .i64 0, .int .i64 0]), 3, 24) := by kernel_rfl
theorem PoG_info : (Tryz.prog.info? 133).map (fun i => (i.zero, i.size, i.bytes)) = some (some (.agg #[.bool false, .bool false, .int .i64 0, .int .i64 0]), 4, 24) := by kernel_rfl
theorem SmG_info : (Tryz.prog.info? 137).map (fun i => (i.zero, i.size, i.bytes)) = some (some (.agg #[.int .i64 0, .int .i64 0]), 2, 16) := by kernel_rfl
theorem PlG_info : (Tryz.prog.info? 142).map (fun i => (i.zero, i.size, i.bytes)) = some (some (.agg #[.int .i64 0, .int .i64 0]), 2, 16) := by kernel_rfl
theorem WnG_info : (Tryz.prog.info? 85).map (fun i => (i.zero, i.size, i.bytes)) = some (some (.agg #[.int .i64 0, .int .i64 0, .int .i64 0]), 3, 24) := by kernel_rfl
theorem LvG_info : (Tryz.prog.info? 87).map (fun i => (i.zero, i.size, i.bytes)) = some (some (.agg #[.int .i64 0, .int .i64 0]), 2, 16) := by kernel_rfl
theorem NpG_info : (Tryz.prog.info? 89).map (fun i => (i.zero, i.size, i.bytes)) = some (some (.agg #[.int .i64 0, .int .i64 0, .int .i64 0]), 3, 24) := by kernel_rfl
theorem ChG_info : (Tryz.prog.info? 72).map (fun i => (i.zero, i.size, i.bytes)) = some (some (.agg #[.int .i64 0, .int .i64 0, .int .i64 0, .int .i64 0]), 4, 32) := by kernel_rfl
theorem MdG_info : (Tryz.prog.info? 58).map (fun i => (i.zero, i.size, i.bytes)) = some (some (.agg #[.int .i64 0, .slice none 0 0]), 2, 32) := by kernel_rfl
theorem PtG_info : (Tryz.prog.info? 55).map (fun i => (i.zero, i.size, i.bytes)) = some (some (.agg #[.slice none 0 0, .slice none 0 0, .slice none 0 0, .slice none 0 0, .int .i64 0, .slice none 0 0, .slice none 0 0, .int .i64 0, .int .i64 0, .int .i64 0, .slice none 0 0]), 11, 200) := by kernel_rfl
theorem IntG_info : (Tryz.prog.info? 3).map (fun i => (i.zero, i.size, i.bytes)) = some (some (.int .i64 0), 1, 8) := by kernel_rfl
def Rg.v (x : Rg) : Value := .agg #[.int .i64 x.base, .int .i64 x.size, .bool x.wr]
def Pc.v (x : Pc) : Value := .agg #[.int .i64 x.prio, .int .i64 x.per, .int .i64 x.cost]
def Po.v (x : Po) : Value := .agg #[.bool x.q, .bool x.inn, .int .i64 x.size, .int .i64 x.depth]
def Sm.v (x : Sm) : Value := .agg #[.int .i64 x.first, .int .i64 x.most]
def Pl.v (x : Pl) : Value := .agg #[.int .i64 x.size, .int .i64 x.depth]
def Wn.v (x : Wn) : Value := .agg #[.int .i64 x.part, .int .i64 x.start, .int .i64 x.len]
def Lv.v (x : Lv) : Value := .agg #[.int .i64 x.freq, .int .i64 x.power]
def Np.v (x : Np) : Value := .agg #[.int .i64 x.power, .int .i64 x.enter, .int .i64 x.wake]
def Ch.v (x : Ch) : Value := .agg #[.int .i64 x.fr.part, .int .i64 x.fr.port, .int .i64 x.to.part, .int .i64 x.to.port]
def Md.v (x : Md) : Value := .agg #[.int .i64 x.frame, .slice x.wins.A x.wins.l.length x.wins.c]
def Pt.v (x : Pt) : Value := .agg #[.slice x.regs.A x.regs.l.length x.regs.c, .slice x.procs.A x.procs.l.length x.procs.c, .slice x.ports.A x.ports.l.length x.ports.c, .slice x.sems.A x.sems.l.length x.sems.c, .int .i64 x.flags, .slice x.pools.A x.pools.l.length x.pools.c, .slice x.slates.A x.slates.l.length x.slates.c, .int .i64 x.cap, .int .i64 x.bud, .int .i64 x.lad, .slice x.acts.A x.acts.l.length x.acts.c]
def En.v (x : En) : Value := .agg #[.int .i64 x.part, .int .i64 x.port]
def Pw.v (x : Pw) : Value := .agg #[.slice x.levels.A x.levels.l.length x.levels.c, .slice x.naps.A x.naps.l.length x.naps.c, .int .i64 x.sw, .int .i64 x.idle, .int .i64 x.change, .int .i64 x.quant, .int .i64 x.slow, .int .i64 x.ppm]
end Go.Proofs.YtahjnonkhbpnpaaGreat
/- The walks of the reader of numbers (package wire), third part: Bool, End. -/
namespace Go.Proofs.YtahjnonkhbpnpaaGreat
open Go.RowKit
set_option maxRecDepth 100000 in
theorem rdBool_any {w : World} {g B : Nat} {s : RS} (h : RdSt w g B s) :
    Calls Tryz.prog 90 #[.pointer (some ⟨g, 0, none⟩)] w fun x w' => x = .returned (.bool (gBool s).1) ∧ RdSt w' g B (gBool s).2 ∧ Fr (fun k => k = g) w w' := by
  have hz : (nxt s).1.toNat < 256 := u8_lt _
  have hG : (1 < (nxt s).1.toNat → gBool s = (false, errS (nxt s).2 12)) ∧ (¬ 1 < (nxt s).1.toNat → gBool s = (decide ((nxt s).1.toNat = 1), (nxt s).2)) := by
    obtain ⟨l, e⟩ := s
    by_cases h0 : e = 0
    · subst h0
      cases l with
      | nil => exact ⟨fun h => absurd h (by decide), fun _ => rfl⟩
      | cons y r =>
        rw [show nxt ⟨y :: r, 0⟩ = (y, ⟨r, 0⟩) from rfl]
        refine ⟨fun h => ?_, fun h => ?_⟩ <;> unfold gBool
        · simp only [ne_eq, not_true_eq_false, if_false]; rw [if_pos h]; rfl
        · simp only [ne_eq, not_true_eq_false, if_false]; rw [if_neg h]
    · have e1 : nxt ⟨l, e⟩ = (0, ⟨l, e⟩) := by unfold nxt; rw [if_neg h0]
      have e2 : gBool ⟨l, e⟩ = (false, ⟨l, e⟩) := by unfold gBool; rw [if_pos h0]
      rw [e1, e2]
      exact ⟨fun h => absurd h (by simp), fun _ => rfl⟩
  have HG := Lib.hid hG
  clear hG
  go_enter Tryz.func90, Tryz.ntmps90
  go_wp2_with fail
  refine (next_any h).mono ?_
  rintro x w2 ⟨rfl, hr2, hf2⟩
  generalize (nxt s).1.toNat = z at hz HG ⊢
  generalize (nxt s).2 = s2 at hr2 HG
  by_cases hlt : 1 < z
  · have HG2 := Lib.hid (HG.out.1 hlt)
    have t1 : ((z : Int) == 1) = false := by simp; omega
    clear HG
    go_wp2_with fail
    refine (fail_any hr2 12).mono ?_
    rintro x w3 ⟨rfl, hr4, hf4⟩
    go_wp2_with fail
    go_ret
    exact ⟨by rw [HG2.out]; rfl, by rw [HG2.out]; exact hr4, hf2.trans hf4⟩
  · have HG2 := Lib.hid (HG.out.2 hlt)
    clear HG
    by_cases h1 : z = 1
    · have t1 : ((z : Int) == 1) = true := by simp; omega
      have HD : Hid (decide (z = 1) = true) := by simpa [Hid] using h1
      clear h1
      go_wp2_with fail
      go_ret
      exact ⟨by rw [HG2.out, HD.out]; rfl, by rw [HG2.out]; exact hr2, hf2⟩
    · have t1 : ((z : Int) == 1) = false := by simp; omega
      have HD : Hid (decide (z = 1) = false) := by simpa [Hid] using h1
      clear h1
      go_wp2_with fail
      go_ret
      exact ⟨by rw [HG2.out, HD.out]; rfl, by rw [HG2.out]; exact hr2, hf2⟩
def endS (s : RS) : Int := if s.e = 0 ∧ s.l ≠ [] then 11 else s.e
theorem end_any {w : World} {g B : Nat} {s : RS} (h : RdSt w g B s) :
    Calls Tryz.prog 40 #[.pointer (some ⟨g, 0, none⟩)] w fun x w' => x = .returned (.int .i64 (endS s)) ∧ w = w' := by
  have h' := h
  obtain ⟨A, n, c, h1, h2, h3⟩ := h
  have d0 : w.cell? ⟨g, 0, none⟩ = some (.slice A n c) := h1.cell 0
  have d1 : w.cell? ⟨g, 1, none⟩ = some (.int .i64 s.e) := h1.cell 1
  have hll := h2.2
  by_cases h0 : s.e = 0
  · have t0 : (s.e == 0) = true := by simpa using h0
    by_cases hn : 0 < n
    · have HE : Hid (endS s = 11) := by unfold Hid endS; rw [if_pos ⟨h0, fun e => by rw [e] at hll; simp at hll; omega⟩]
      clear h0 hll
      go_enter Tryz.func40, Tryz.ntmps40
      go_wp2_with fail
      go_ret
      exact ⟨by rw [HE.out]; rfl, rfl⟩
    · have HE : Hid (endS s = s.e) := by unfold Hid endS; rw [if_neg (fun k => k.2 (List.eq_nil_of_length_eq_zero (by omega)))]
      obtain rfl : n = 0 := by omega
      clear h0 hll
      go_enter Tryz.func40, Tryz.ntmps40
      go_wp2_with fail
      refine (err_any h').mono ?_
      rintro x w3 ⟨rfl, rfl⟩
      go_wp2_with fail
      go_ret
      exact ⟨by rw [HE.out]; rfl, rfl⟩
  · have t0 : (s.e == 0) = false := by simpa using h0
    have HE : Hid (endS s = s.e) := by unfold Hid endS; rw [if_neg (fun k => h0 k.1)]
    clear h0 hll
    go_enter Tryz.func40, Tryz.ntmps40
    go_wp2_with fail
    refine (err_any h').mono ?_
    rintro x w3 ⟨rfl, rfl⟩
    go_wp2_with fail
    go_ret
    exact ⟨by rw [HE.out]; rfl, rfl⟩
end Go.Proofs.YtahjnonkhbpnpaaGreat
/- What Decode tells. -/
namespace Go.Proofs.YtahjnonkhbpnpaaGreat
open Go.RowKit
/-- the error of bytes -/
def decE (l : List UInt8) : Int := endS (kCf ⟨l, 0⟩)
theorem endS_zero {s : RS} (h : endS s = 0) : s.e = 0 ∧ s.l = [] := by
  unfold endS at h
  split at h
  · cases h
  · rename_i hn
    refine ⟨h, ?_⟩
    cases hl : s.l with
    | nil => rfl
    | cons a b => exact absurd ⟨h, by rw [hl]; exact List.cons_ne_nil _ _⟩ hn
theorem hd_none {P : Program} {α : Type} {e : TypeId} (r : Rd P e α) (w : World) : Hd.ok r w ⟨none, 0, []⟩ := ⟨SlG.nil w _ _, fun x h => by cases h⟩
theorem cf0_ok (w : World) : rdCf.ok w Cf0 := by
  have z0 : i64 0 := by unfold i64; omega
  exact ⟨hd_none _ _, hd_none _ _, hd_none _ _, ⟨hd_none _ _, hd_none _ _, z0, z0, z0, z0, z0, z0⟩, SlI.nil w, SlI.nil w⟩
def DecPost (l : List UInt8) (w : World) (e : Ending) (w' : World) : Prop :=
  ∃ (x : Cf) (z : Int), e = .returned (.tuple #[x.v, .int .i64 z]) ∧ rdCf.ok w' x ∧ Below w.heap.size w w' ∧ z = decE l ∧ (z = 0 → encCf x = l ∧ badCf x = false) ∧ (z ≠ 0 → x = Cf0)
end Go.Proofs.YtahjnonkhbpnpaaGreat
/- conf's Same: slices.Equal. Printed by wip/gen_sm.py. -/
namespace Go.Proofs.YtahjnonkhbpnpaaGreat
open Go.RowKit
theorem eqB_Rg (x y : Rg) : ((x.base == y.base) && (x.size == y.size) && (x.wr == y.wr)) = true ↔ x = y := by
  obtain ⟨a0, a1, a2⟩ := x
  obtain ⟨b0, b1, b2⟩ := y
  simp [Bool.and_eq_true, and_assoc]
set_option maxRecDepth 100000 in
theorem run_eq_Rg (x y : Rg) (w : World) : (Op.equalIn 10000 124 (.agg #[.int .i64 x.base, .int .i64 x.size, .bool x.wr]) (.agg #[.int .i64 y.base, .int .i64 y.size, .bool y.wr])).run Tryz.prog w = .ok ((x.base == y.base) && (x.size == y.size) && (x.wr == y.wr)) w := by
  have hS : Tryz.prog.underlying 124 = some (.struct (Tryz.prog.fieldsOf 124)) := by kernel_rfl
  have hp : Tryz.prog.stoodInHeld 124 = false := by kernel_rfl
  rw [show (10000 : Nat) = 9999 + 1 from rfl, run_equalIn_agg w 9999 124 _ _ hS hp]
  simp only [Program.fieldsOf, Tryz.underlying124]
  clear hS hp
  have ui := u_int
  have ai := Tryz.isAgg3
  have zi := Tryz.sizeOf3
  have ub := Tryz.u_bool
  have ab := Tryz.isAgg4
  have zb := Tryz.sizeOf4
  go_simp
  by_cases h0 : x.base = y.base <;> by_cases h1 : x.size = y.size <;> by_cases h2 : x.wr = y.wr <;> simp [h0, h1, h2]
set_option maxRecDepth 100000 in
set_option maxHeartbeats 1600000 in
theorem equal_Rg {w : World} {x y : Hd Rg} (hx : x.ok rdRg w) (hy : y.ok rdRg w) :
    Calls Tryz.prog 107 #[.slice x.A x.l.length x.c, .slice y.A y.l.length y.c] w fun e w' => ∃ b : Bool, e = .returned (.bool b) ∧ (b = true ↔ x.l = y.l) ∧ ∃ q, w' = w.drewN q := by
  have hz := hx.1.len
  have hzy := hy.1.len
  by_cases hl : x.l.length = y.l.length
  · have hm : Tryz.prog.eqGuardType Tryz.prog.depth 124 = false := by kernel_rfl
    have HL := Lib.hid hl
    have hxL := hx
    rw [← hl]
    obtain ⟨n, hn⟩ : ∃ n, n = x.l.length := ⟨_, rfl⟩
    rw [← hn]
    have HN := Lib.hid hn
    rw [← hn] at hz
    clear hn hl
    go_enter Tryz.func107, Tryz.ntmps107
    go_wp2_with fail
    go_loopw [5, 13] (fun _ i wr => ∃ (k q : Nat), k ≤ n ∧ i = .int .i64 (k : Int) ∧ wr = w.drewN q ∧ Hid (x.l.take k = y.l.take k)) (fun _ i _ => n - (intOf i).toNat)
    case atStart => exact ⟨0, 0, Nat.zero_le _, rfl, rfl, rfl⟩
    case round =>
      obtain ⟨k, q, hk, rfl, rfl, htk⟩ := hrel
      by_cases hlt : k < n
      · have hlx : k < x.l.length := by rw [← HN.out]; exact hlt
        have hly : k < y.l.length := by rw [← HL.out, ← HN.out]; exact hlt
        obtain ⟨xb, xo, hxA, hxb, hxc⟩ := hx.1.at_ Rg0 hlx
        obtain ⟨yb, yo, hyA, hyb, hyc⟩ := hy.1.at_ (k := k) Rg0 hly
        have x0 : w.cell? ⟨xb, xo + k * 3, none⟩ = some (.int .i64 (atD Rg0 x.l k).base) := hxc 0 _ rfl
        have x1 : w.cell? ⟨xb, xo + k * 3 + 1, none⟩ = some (.int .i64 (atD Rg0 x.l k).size) := hxc 1 _ rfl
        have x2 : w.cell? ⟨xb, xo + k * 3 + 2, none⟩ = some (.bool (atD Rg0 x.l k).wr) := hxc 2 _ rfl
        have y0 : w.cell? ⟨yb, yo + k * 3, none⟩ = some (.int .i64 (atD Rg0 y.l k).base) := hyc 0 _ rfl
        have y1 : w.cell? ⟨yb, yo + k * 3 + 1, none⟩ = some (.int .i64 (atD Rg0 y.l k).size) := hyc 1 _ rfl
        have y2 : w.cell? ⟨yb, yo + k * 3 + 2, none⟩ = some (.bool (atD Rg0 y.l k).wr) := hyc 2 _ rfl
        have HT : Hid (x.l.take (k + 1) = y.l.take (k + 1) ↔ atD Rg0 x.l k = atD Rg0 y.l k) := by
          unfold Hid
          rw [take_snocG Rg0 _ _ hlx, take_snocG Rg0 _ _ hly, htk.out]
          simp
        have HF : Hid (x.l = y.l → atD Rg0 x.l k = atD Rg0 y.l k) := fun h => by rw [h]
        rw [hxA, hyA]
        clear hxc hyc hlx hly
        have heq := run_eq_Rg (atD Rg0 x.l k) (atD Rg0 y.l k)
        have HB := Lib.hid (eqB_Rg (atD Rg0 x.l k) (atD Rg0 y.l k))
        generalize atD Rg0 x.l k = u at x0 x1 x2 HT HF heq HB
        generalize atD Rg0 y.l k = v at y0 y1 y2 HT HF heq HB
        generalize ((u.base == v.base) && (u.size == v.size) && (u.wr == v.wr)) = b at heq HB
        go_wp2_with fail
        go_quiet (fail)
        rename_i nq
        cases b with
        | false =>
          go_wp2_with fail
          go_ret
          refine ⟨false, rfl, ⟨(fun h => by cases h), fun h => ?_⟩, q + nq, by first | rfl | rw [World.drewN_drewN]⟩
          exact absurd (HB.out.2 (HF.out h)) (by decide)
        | true =>
          go_wp2_with fail
          exact ⟨⟨k + 1, q + nq, by omega, by go_num, by first | rfl | rw [World.drewN_drewN], HT.out.2 (HB.out.1 rfl)⟩, by simp [intOf]; omega⟩
      · obtain rfl : k = n := by omega
        have HE : Hid (x.l = y.l) := by
          have := htk.out
          rw [List.take_of_length_le (by rw [← HN.out]; exact Nat.le_refl _), List.take_of_length_le (by rw [← HL.out, ← HN.out]; exact Nat.le_refl _)] at this
          exact this
        go_wp2_with fail
        go_ret
        exact ⟨true, rfl, ⟨fun _ => HE.out, fun _ => rfl⟩, q, rfl⟩
  · have hne : ((x.l.length : Int) != (y.l.length : Int)) = true := by simp; omega
    have HL := Lib.hid hl
    clear hl
    go_enter Tryz.func107, Tryz.ntmps107
    go_wp2_with fail
    go_ret
    exact ⟨false, rfl, ⟨fun h => (by cases h), fun h => absurd (congrArg List.length h) HL.out⟩, 0, rfl⟩

theorem eqB_Pc (x y : Pc) : ((x.prio == y.prio) && (x.per == y.per) && (x.cost == y.cost)) = true ↔ x = y := by
  obtain ⟨a0, a1, a2⟩ := x
  obtain ⟨b0, b1, b2⟩ := y
  simp [Bool.and_eq_true, and_assoc]
set_option maxRecDepth 100000 in
theorem run_eq_Pc (x y : Pc) (w : World) : (Op.equalIn 10000 129 (.agg #[.int .i64 x.prio, .int .i64 x.per, .int .i64 x.cost]) (.agg #[.int .i64 y.prio, .int .i64 y.per, .int .i64 y.cost])).run Tryz.prog w = .ok ((x.prio == y.prio) && (x.per == y.per) && (x.cost == y.cost)) w := by
  have hS : Tryz.prog.underlying 129 = some (.struct (Tryz.prog.fieldsOf 129)) := by kernel_rfl
  have hp : Tryz.prog.stoodInHeld 129 = false := by kernel_rfl
  rw [show (10000 : Nat) = 9999 + 1 from rfl, run_equalIn_agg w 9999 129 _ _ hS hp]
  simp only [Program.fieldsOf, Tryz.underlying129]
  clear hS hp
  have ui := u_int
  have ai := Tryz.isAgg3
  have zi := Tryz.sizeOf3
  go_simp
  by_cases h0 : x.prio = y.prio <;> by_cases h1 : x.per = y.per <;> by_cases h2 : x.cost = y.cost <;> simp [h0, h1, h2]
set_option maxRecDepth 100000 in
set_option maxHeartbeats 1600000 in
theorem equal_Pc {w : World} {x y : Hd Pc} (hx : x.ok rdPc w) (hy : y.ok rdPc w) :
    Calls Tryz.prog 108 #[.slice x.A x.l.length x.c, .slice y.A y.l.length y.c] w fun e w' => ∃ b : Bool, e = .returned (.bool b) ∧ (b = true ↔ x.l = y.l) ∧ ∃ q, w' = w.drewN q := by
  have hz := hx.1.len
  have hzy := hy.1.len
  by_cases hl : x.l.length = y.l.length
  · have hm : Tryz.prog.eqGuardType Tryz.prog.depth 129 = false := by kernel_rfl
    have HL := Lib.hid hl
    have hxL := hx
    rw [← hl]
    obtain ⟨n, hn⟩ : ∃ n, n = x.l.length := ⟨_, rfl⟩
    rw [← hn]
    have HN := Lib.hid hn
    rw [← hn] at hz
    clear hn hl
    go_enter Tryz.func108, Tryz.ntmps108
    go_wp2_with fail
    go_loopw [5, 13] (fun _ i wr => ∃ (k q : Nat), k ≤ n ∧ i = .int .i64 (k : Int) ∧ wr = w.drewN q ∧ Hid (x.l.take k = y.l.take k)) (fun _ i _ => n - (intOf i).toNat)
    case atStart => exact ⟨0, 0, Nat.zero_le _, rfl, rfl, rfl⟩
    case round =>
      obtain ⟨k, q, hk, rfl, rfl, htk⟩ := hrel
      by_cases hlt : k < n
      · have hlx : k < x.l.length := by rw [← HN.out]; exact hlt
        have hly : k < y.l.length := by rw [← HL.out, ← HN.out]; exact hlt
        obtain ⟨xb, xo, hxA, hxb, hxc⟩ := hx.1.at_ Pc0 hlx
        obtain ⟨yb, yo, hyA, hyb, hyc⟩ := hy.1.at_ (k := k) Pc0 hly
        have x0 : w.cell? ⟨xb, xo + k * 3, none⟩ = some (.int .i64 (atD Pc0 x.l k).prio) := hxc 0 _ rfl
        have x1 : w.cell? ⟨xb, xo + k * 3 + 1, none⟩ = some (.int .i64 (atD Pc0 x.l k).per) := hxc 1 _ rfl
        have x2 : w.cell? ⟨xb, xo + k * 3 + 2, none⟩ = some (.int .i64 (atD Pc0 x.l k).cost) := hxc 2 _ rfl
        have y0 : w.cell? ⟨yb, yo + k * 3, none⟩ = some (.int .i64 (atD Pc0 y.l k).prio) := hyc 0 _ rfl
        have y1 : w.cell? ⟨yb, yo + k * 3 + 1, none⟩ = some (.int .i64 (atD Pc0 y.l k).per) := hyc 1 _ rfl
        have y2 : w.cell? ⟨yb, yo + k * 3 + 2, none⟩ = some (.int .i64 (atD Pc0 y.l k).cost) := hyc 2 _ rfl
        have HT : Hid (x.l.take (k + 1) = y.l.take (k + 1) ↔ atD Pc0 x.l k = atD Pc0 y.l k) := by
          unfold Hid
          rw [take_snocG Pc0 _ _ hlx, take_snocG Pc0 _ _ hly, htk.out]
          simp
        have HF : Hid (x.l = y.l → atD Pc0 x.l k = atD Pc0 y.l k) := fun h => by rw [h]
        rw [hxA, hyA]
        clear hxc hyc hlx hly
        have heq := run_eq_Pc (atD Pc0 x.l k) (atD Pc0 y.l k)
        have HB := Lib.hid (eqB_Pc (atD Pc0 x.l k) (atD Pc0 y.l k))
        generalize atD Pc0 x.l k = u at x0 x1 x2 HT HF heq HB
        generalize atD Pc0 y.l k = v at y0 y1 y2 HT HF heq HB
        generalize ((u.prio == v.prio) && (u.per == v.per) && (u.cost == v.cost)) = b at heq HB
        go_wp2_with fail
        go_quiet (fail)
        rename_i nq
        cases b with
        | false =>
          go_wp2_with fail
          go_ret
          refine ⟨false, rfl, ⟨(fun h => by cases h), fun h => ?_⟩, q + nq, by first | rfl | rw [World.drewN_drewN]⟩
          exact absurd (HB.out.2 (HF.out h)) (by decide)
        | true =>
          go_wp2_with fail
          exact ⟨⟨k + 1, q + nq, by omega, by go_num, by first | rfl | rw [World.drewN_drewN], HT.out.2 (HB.out.1 rfl)⟩, by simp [intOf]; omega⟩
      · obtain rfl : k = n := by omega
        have HE : Hid (x.l = y.l) := by
          have := htk.out
          rw [List.take_of_length_le (by rw [← HN.out]; exact Nat.le_refl _), List.take_of_length_le (by rw [← HL.out, ← HN.out]; exact Nat.le_refl _)] at this
          exact this
        go_wp2_with fail
        go_ret
        exact ⟨true, rfl, ⟨fun _ => HE.out, fun _ => rfl⟩, q, rfl⟩
  · have hne : ((x.l.length : Int) != (y.l.length : Int)) = true := by simp; omega
    have HL := Lib.hid hl
    clear hl
    go_enter Tryz.func108, Tryz.ntmps108
    go_wp2_with fail
    go_ret
    exact ⟨false, rfl, ⟨fun h => (by cases h), fun h => absurd (congrArg List.length h) HL.out⟩, 0, rfl⟩

theorem eqB_Po (x y : Po) : ((x.q == y.q) && (x.inn == y.inn) && (x.size == y.size) && (x.depth == y.depth)) = true ↔ x = y := by
  obtain ⟨a0, a1, a2, a3⟩ := x
  obtain ⟨b0, b1, b2, b3⟩ := y
  simp [Bool.and_eq_true, and_assoc]
set_option maxRecDepth 100000 in
theorem run_eq_Po (x y : Po) (w : World) : (Op.equalIn 10000 133 (.agg #[.bool x.q, .bool x.inn, .int .i64 x.size, .int .i64 x.depth]) (.agg #[.bool y.q, .bool y.inn, .int .i64 y.size, .int .i64 y.depth])).run Tryz.prog w = .ok ((x.q == y.q) && (x.inn == y.inn) && (x.size == y.size) && (x.depth == y.depth)) w := by
  have hS : Tryz.prog.underlying 133 = some (.struct (Tryz.prog.fieldsOf 133)) := by kernel_rfl
  have hp : Tryz.prog.stoodInHeld 133 = false := by kernel_rfl
  rw [show (10000 : Nat) = 9999 + 1 from rfl, run_equalIn_agg w 9999 133 _ _ hS hp]
  simp only [Program.fieldsOf, Tryz.underlying133]
  clear hS hp
  have ui := u_int
  have ai := Tryz.isAgg3
  have zi := Tryz.sizeOf3
  have ub := Tryz.u_bool
  have ab := Tryz.isAgg4
  have zb := Tryz.sizeOf4
  go_simp
  by_cases h0 : x.q = y.q <;> by_cases h1 : x.inn = y.inn <;> by_cases h2 : x.size = y.size <;> by_cases h3 : x.depth = y.depth <;> simp [h0, h1, h2, h3]
set_option maxRecDepth 100000 in
set_option maxHeartbeats 1600000 in
theorem equal_Po {w : World} {x y : Hd Po} (hx : x.ok rdPo w) (hy : y.ok rdPo w) :
    Calls Tryz.prog 109 #[.slice x.A x.l.length x.c, .slice y.A y.l.length y.c] w fun e w' => ∃ b : Bool, e = .returned (.bool b) ∧ (b = true ↔ x.l = y.l) ∧ ∃ q, w' = w.drewN q := by
  have hz := hx.1.len
  have hzy := hy.1.len
  by_cases hl : x.l.length = y.l.length
  · have hm : Tryz.prog.eqGuardType Tryz.prog.depth 133 = false := by kernel_rfl
    have HL := Lib.hid hl
    have hxL := hx
    rw [← hl]
    obtain ⟨n, hn⟩ : ∃ n, n = x.l.length := ⟨_, rfl⟩
    rw [← hn]
    have HN := Lib.hid hn
    rw [← hn] at hz
    clear hn hl
    go_enter Tryz.func109, Tryz.ntmps109
    go_wp2_with fail
    go_loopw [5, 13] (fun _ i wr => ∃ (k q : Nat), k ≤ n ∧ i = .int .i64 (k : Int) ∧ wr = w.drewN q ∧ Hid (x.l.take k = y.l.take k)) (fun _ i _ => n - (intOf i).toNat)
    case atStart => exact ⟨0, 0, Nat.zero_le _, rfl, rfl, rfl⟩
    case round =>
      obtain ⟨k, q, hk, rfl, rfl, htk⟩ := hrel
      by_cases hlt : k < n
      · have hlx : k < x.l.length := by rw [← HN.out]; exact hlt
        have hly : k < y.l.length := by rw [← HL.out, ← HN.out]; exact hlt
        obtain ⟨xb, xo, hxA, hxb, hxc⟩ := hx.1.at_ Po0 hlx
        obtain ⟨yb, yo, hyA, hyb, hyc⟩ := hy.1.at_ (k := k) Po0 hly
        have x0 : w.cell? ⟨xb, xo + k * 4, none⟩ = some (.bool (atD Po0 x.l k).q) := hxc 0 _ rfl
        have x1 : w.cell? ⟨xb, xo + k * 4 + 1, none⟩ = some (.bool (atD Po0 x.l k).inn) := hxc 1 _ rfl
        have x2 : w.cell? ⟨xb, xo + k * 4 + 2, none⟩ = some (.int .i64 (atD Po0 x.l k).size) := hxc 2 _ rfl
        have x3 : w.cell? ⟨xb, xo + k * 4 + 3, none⟩ = some (.int .i64 (atD Po0 x.l k).depth) := hxc 3 _ rfl
        have y0 : w.cell? ⟨yb, yo + k * 4, none⟩ = some (.bool (atD Po0 y.l k).q) := hyc 0 _ rfl
        have y1 : w.cell? ⟨yb, yo + k * 4 + 1, none⟩ = some (.bool (atD Po0 y.l k).inn) := hyc 1 _ rfl
        have y2 : w.cell? ⟨yb, yo + k * 4 + 2, none⟩ = some (.int .i64 (atD Po0 y.l k).size) := hyc 2 _ rfl
        have y3 : w.cell? ⟨yb, yo + k * 4 + 3, none⟩ = some (.int .i64 (atD Po0 y.l k).depth) := hyc 3 _ rfl
        have HT : Hid (x.l.take (k + 1) = y.l.take (k + 1) ↔ atD Po0 x.l k = atD Po0 y.l k) := by
          unfold Hid
          rw [take_snocG Po0 _ _ hlx, take_snocG Po0 _ _ hly, htk.out]
          simp
        have HF : Hid (x.l = y.l → atD Po0 x.l k = atD Po0 y.l k) := fun h => by rw [h]
        rw [hxA, hyA]
        clear hxc hyc hlx hly
        have heq := run_eq_Po (atD Po0 x.l k) (atD Po0 y.l k)
        have HB := Lib.hid (eqB_Po (atD Po0 x.l k) (atD Po0 y.l k))
        generalize atD Po0 x.l k = u at x0 x1 x2 x3 HT HF heq HB
        generalize atD Po0 y.l k = v at y0 y1 y2 y3 HT HF heq HB
        generalize ((u.q == v.q) && (u.inn == v.inn) && (u.size == v.size) && (u.depth == v.depth)) = b at heq HB
        go_wp2_with fail
        go_quiet (fail)
        rename_i nq
        cases b with
        | false =>
          go_wp2_with fail
          go_ret
          refine ⟨false, rfl, ⟨(fun h => by cases h), fun h => ?_⟩, q + nq, by first | rfl | rw [World.drewN_drewN]⟩
          exact absurd (HB.out.2 (HF.out h)) (by decide)
        | true =>
          go_wp2_with fail
          exact ⟨⟨k + 1, q + nq, by omega, by go_num, by first | rfl | rw [World.drewN_drewN], HT.out.2 (HB.out.1 rfl)⟩, by simp [intOf]; omega⟩
      · obtain rfl : k = n := by omega
        have HE : Hid (x.l = y.l) := by
          have := htk.out
          rw [List.take_of_length_le (by rw [← HN.out]; exact Nat.le_refl _), List.take_of_length_le (by rw [← HL.out, ← HN.out]; exact Nat.le_refl _)] at this
          exact this
        go_wp2_with fail
        go_ret
        exact ⟨true, rfl, ⟨fun _ => HE.out, fun _ => rfl⟩, q, rfl⟩
  · have hne : ((x.l.length : Int) != (y.l.length : Int)) = true := by simp; omega
    have HL := Lib.hid hl
    clear hl
    go_enter Tryz.func109, Tryz.ntmps109
    go_wp2_with fail
    go_ret
    exact ⟨false, rfl, ⟨fun h => (by cases h), fun h => absurd (congrArg List.length h) HL.out⟩, 0, rfl⟩

theorem eqB_Sm (x y : Sm) : ((x.first == y.first) && (x.most == y.most)) = true ↔ x = y := by
  obtain ⟨a0, a1⟩ := x
  obtain ⟨b0, b1⟩ := y
  simp [Bool.and_eq_true]
set_option maxRecDepth 100000 in
theorem run_eq_Sm (x y : Sm) (w : World) : (Op.equalIn 10000 137 (.agg #[.int .i64 x.first, .int .i64 x.most]) (.agg #[.int .i64 y.first, .int .i64 y.most])).run Tryz.prog w = .ok ((x.first == y.first) && (x.most == y.most)) w := by
  have hS : Tryz.prog.underlying 137 = some (.struct (Tryz.prog.fieldsOf 137)) := by kernel_rfl
  have hp : Tryz.prog.stoodInHeld 137 = false := by kernel_rfl
  rw [show (10000 : Nat) = 9999 + 1 from rfl, run_equalIn_agg w 9999 137 _ _ hS hp]
  simp only [Program.fieldsOf, Tryz.underlying137]
  clear hS hp
  have ui := u_int
  have ai := Tryz.isAgg3
  have zi := Tryz.sizeOf3
  go_simp
  by_cases h0 : x.first = y.first <;> by_cases h1 : x.most = y.most <;> simp [h0, h1]
set_option maxRecDepth 100000 in
set_option maxHeartbeats 1600000 in
theorem equal_Sm {w : World} {x y : Hd Sm} (hx : x.ok rdSm w) (hy : y.ok rdSm w) :
    Calls Tryz.prog 110 #[.slice x.A x.l.length x.c, .slice y.A y.l.length y.c] w fun e w' => ∃ b : Bool, e = .returned (.bool b) ∧ (b = true ↔ x.l = y.l) ∧ ∃ q, w' = w.drewN q := by
  have hz := hx.1.len
  have hzy := hy.1.len
  by_cases hl : x.l.length = y.l.length
  · have hm : Tryz.prog.eqGuardType Tryz.prog.depth 137 = false := by kernel_rfl
    have HL := Lib.hid hl
    have hxL := hx
    rw [← hl]
    obtain ⟨n, hn⟩ : ∃ n, n = x.l.length := ⟨_, rfl⟩
    rw [← hn]
    have HN := Lib.hid hn
    rw [← hn] at hz
    clear hn hl
    go_enter Tryz.func110, Tryz.ntmps110
    go_wp2_with fail
    go_loopw [5, 13] (fun _ i wr => ∃ (k q : Nat), k ≤ n ∧ i = .int .i64 (k : Int) ∧ wr = w.drewN q ∧ Hid (x.l.take k = y.l.take k)) (fun _ i _ => n - (intOf i).toNat)
    case atStart => exact ⟨0, 0, Nat.zero_le _, rfl, rfl, rfl⟩
    case round =>
      obtain ⟨k, q, hk, rfl, rfl, htk⟩ := hrel
      by_cases hlt : k < n
      · have hlx : k < x.l.length := by rw [← HN.out]; exact hlt
        have hly : k < y.l.length := by rw [← HL.out, ← HN.out]; exact hlt
        obtain ⟨xb, xo, hxA, hxb, hxc⟩ := hx.1.at_ Sm0 hlx
        obtain ⟨yb, yo, hyA, hyb, hyc⟩ := hy.1.at_ (k := k) Sm0 hly
        have x0 : w.cell? ⟨xb, xo + k * 2, none⟩ = some (.int .i64 (atD Sm0 x.l k).first) := hxc 0 _ rfl
        have x1 : w.cell? ⟨xb, xo + k * 2 + 1, none⟩ = some (.int .i64 (atD Sm0 x.l k).most) := hxc 1 _ rfl
        have y0 : w.cell? ⟨yb, yo + k * 2, none⟩ = some (.int .i64 (atD Sm0 y.l k).first) := hyc 0 _ rfl
        have y1 : w.cell? ⟨yb, yo + k * 2 + 1, none⟩ = some (.int .i64 (atD Sm0 y.l k).most) := hyc 1 _ rfl
        have HT : Hid (x.l.take (k + 1) = y.l.take (k + 1) ↔ atD Sm0 x.l k = atD Sm0 y.l k) := by
          unfold Hid
          rw [take_snocG Sm0 _ _ hlx, take_snocG Sm0 _ _ hly, htk.out]
          simp
        have HF : Hid (x.l = y.l → atD Sm0 x.l k = atD Sm0 y.l k) := fun h => by rw [h]
        rw [hxA, hyA]
        clear hxc hyc hlx hly
        have heq := run_eq_Sm (atD Sm0 x.l k) (atD Sm0 y.l k)
        have HB := Lib.hid (eqB_Sm (atD Sm0 x.l k) (atD Sm0 y.l k))
        generalize atD Sm0 x.l k = u at x0 x1 HT HF heq HB
        generalize atD Sm0 y.l k = v at y0 y1 HT HF heq HB
        generalize ((u.first == v.first) && (u.most == v.most)) = b at heq HB
        go_wp2_with fail
        go_quiet (fail)
        rename_i nq
        cases b with
        | false =>
          go_wp2_with fail
          go_ret
          refine ⟨false, rfl, ⟨(fun h => by cases h), fun h => ?_⟩, q + nq, by first | rfl | rw [World.drewN_drewN]⟩
          exact absurd (HB.out.2 (HF.out h)) (by decide)
        | true =>
          go_wp2_with fail
          exact ⟨⟨k + 1, q + nq, by omega, by go_num, by first | rfl | rw [World.drewN_drewN], HT.out.2 (HB.out.1 rfl)⟩, by simp [intOf]; omega⟩
      · obtain rfl : k = n := by omega
        have HE : Hid (x.l = y.l) := by
          have := htk.out
          rw [List.take_of_length_le (by rw [← HN.out]; exact Nat.le_refl _), List.take_of_length_le (by rw [← HL.out, ← HN.out]; exact Nat.le_refl _)] at this
          exact this
        go_wp2_with fail
        go_ret
        exact ⟨true, rfl, ⟨fun _ => HE.out, fun _ => rfl⟩, q, rfl⟩
  · have hne : ((x.l.length : Int) != (y.l.length : Int)) = true := by simp; omega
    have HL := Lib.hid hl
    clear hl
    go_enter Tryz.func110, Tryz.ntmps110
    go_wp2_with fail
    go_ret
    exact ⟨false, rfl, ⟨fun h => (by cases h), fun h => absurd (congrArg List.length h) HL.out⟩, 0, rfl⟩

theorem eqB_Pl (x y : Pl) : ((x.size == y.size) && (x.depth == y.depth)) = true ↔ x = y := by
  obtain ⟨a0, a1⟩ := x
  obtain ⟨b0, b1⟩ := y
  simp [Bool.and_eq_true]
set_option maxRecDepth 100000 in
theorem run_eq_Pl (x y : Pl) (w : World) : (Op.equalIn 10000 142 (.agg #[.int .i64 x.size, .int .i64 x.depth]) (.agg #[.int .i64 y.size, .int .i64 y.depth])).run Tryz.prog w = .ok ((x.size == y.size) && (x.depth == y.depth)) w := by
  have hS : Tryz.prog.underlying 142 = some (.struct (Tryz.prog.fieldsOf 142)) := by kernel_rfl
  have hp : Tryz.prog.stoodInHeld 142 = false := by kernel_rfl
  rw [show (10000 : Nat) = 9999 + 1 from rfl, run_equalIn_agg w 9999 142 _ _ hS hp]
  simp only [Program.fieldsOf, Tryz.underlying142]
  clear hS hp
  have ui := u_int
  have ai := Tryz.isAgg3
  have zi := Tryz.sizeOf3
  go_simp
  by_cases h0 : x.size = y.size <;> by_cases h1 : x.depth = y.depth <;> simp [h0, h1]
set_option maxRecDepth 100000 in
set_option maxHeartbeats 1600000 in
theorem equal_Pl {w : World} {x y : Hd Pl} (hx : x.ok rdPl w) (hy : y.ok rdPl w) :
    Calls Tryz.prog 111 #[.slice x.A x.l.length x.c, .slice y.A y.l.length y.c] w fun e w' => ∃ b : Bool, e = .returned (.bool b) ∧ (b = true ↔ x.l = y.l) ∧ ∃ q, w' = w.drewN q := by
  have hz := hx.1.len
  have hzy := hy.1.len
  by_cases hl : x.l.length = y.l.length
  · have hm : Tryz.prog.eqGuardType Tryz.prog.depth 142 = false := by kernel_rfl
    have HL := Lib.hid hl
    have hxL := hx
    rw [← hl]
    obtain ⟨n, hn⟩ : ∃ n, n = x.l.length := ⟨_, rfl⟩
    rw [← hn]
    have HN := Lib.hid hn
    rw [← hn] at hz
    clear hn hl
    go_enter Tryz.func111, Tryz.ntmps111
    go_wp2_with fail
    go_loopw [5, 13] (fun _ i wr => ∃ (k q : Nat), k ≤ n ∧ i = .int .i64 (k : Int) ∧ wr = w.drewN q ∧ Hid (x.l.take k = y.l.take k)) (fun _ i _ => n - (intOf i).toNat)
    case atStart => exact ⟨0, 0, Nat.zero_le _, rfl, rfl, rfl⟩
    case round =>
      obtain ⟨k, q, hk, rfl, rfl, htk⟩ := hrel
      by_cases hlt : k < n
      · have hlx : k < x.l.length := by rw [← HN.out]; exact hlt
        have hly : k < y.l.length := by rw [← HL.out, ← HN.out]; exact hlt
        obtain ⟨xb, xo, hxA, hxb, hxc⟩ := hx.1.at_ Pl0 hlx
        obtain ⟨yb, yo, hyA, hyb, hyc⟩ := hy.1.at_ (k := k) Pl0 hly
        have x0 : w.cell? ⟨xb, xo + k * 2, none⟩ = some (.int .i64 (atD Pl0 x.l k).size) := hxc 0 _ rfl
        have x1 : w.cell? ⟨xb, xo + k * 2 + 1, none⟩ = some (.int .i64 (atD Pl0 x.l k).depth) := hxc 1 _ rfl
        have y0 : w.cell? ⟨yb, yo + k * 2, none⟩ = some (.int .i64 (atD Pl0 y.l k).size) := hyc 0 _ rfl
        have y1 : w.cell? ⟨yb, yo + k * 2 + 1, none⟩ = some (.int .i64 (atD Pl0 y.l k).depth) := hyc 1 _ rfl
        have HT : Hid (x.l.take (k + 1) = y.l.take (k + 1) ↔ atD Pl0 x.l k = atD Pl0 y.l k) := by
          unfold Hid
          rw [take_snocG Pl0 _ _ hlx, take_snocG Pl0 _ _ hly, htk.out]
          simp
        have HF : Hid (x.l = y.l → atD Pl0 x.l k = atD Pl0 y.l k) := fun h => by rw [h]
        rw [hxA, hyA]
        clear hxc hyc hlx hly
        have heq := run_eq_Pl (atD Pl0 x.l k) (atD Pl0 y.l k)
        have HB := Lib.hid (eqB_Pl (atD Pl0 x.l k) (atD Pl0 y.l k))
        generalize atD Pl0 x.l k = u at x0 x1 HT HF heq HB
        generalize atD Pl0 y.l k = v at y0 y1 HT HF heq HB
        generalize ((u.size == v.size) && (u.depth == v.depth)) = b at heq HB
        go_wp2_with fail
        go_quiet (fail)
        rename_i nq
        cases b with
        | false =>
          go_wp2_with fail
          go_ret
          refine ⟨false, rfl, ⟨(fun h => by cases h), fun h => ?_⟩, q + nq, by first | rfl | rw [World.drewN_drewN]⟩
          exact absurd (HB.out.2 (HF.out h)) (by decide)
        | true =>
          go_wp2_with fail
          exact ⟨⟨k + 1, q + nq, by omega, by go_num, by first | rfl | rw [World.drewN_drewN], HT.out.2 (HB.out.1 rfl)⟩, by simp [intOf]; omega⟩
      · obtain rfl : k = n := by omega
        have HE : Hid (x.l = y.l) := by
          have := htk.out
          rw [List.take_of_length_le (by rw [← HN.out]; exact Nat.le_refl _), List.take_of_length_le (by rw [← HL.out, ← HN.out]; exact Nat.le_refl _)] at this
          exact this
        go_wp2_with fail
        go_ret
        exact ⟨true, rfl, ⟨fun _ => HE.out, fun _ => rfl⟩, q, rfl⟩
  · have hne : ((x.l.length : Int) != (y.l.length : Int)) = true := by simp; omega
    have HL := Lib.hid hl
    clear hl
    go_enter Tryz.func111, Tryz.ntmps111
    go_wp2_with fail
    go_ret
    exact ⟨false, rfl, ⟨fun h => (by cases h), fun h => absurd (congrArg List.length h) HL.out⟩, 0, rfl⟩
end Go.Proofs.YtahjnonkhbpnpaaGreat
/- conf's Same: slices.Equal. Printed by wip/gen_sm.py. -/
namespace Go.Proofs.YtahjnonkhbpnpaaGreat
open Go.RowKit
theorem eqB_Wn (x y : Wn) : ((x.part == y.part) && (x.start == y.start) && (x.len == y.len)) = true ↔ x = y := by
  obtain ⟨a0, a1, a2⟩ := x
  obtain ⟨b0, b1, b2⟩ := y
  simp [Bool.and_eq_true, and_assoc]
set_option maxRecDepth 100000 in
theorem run_eq_Wn (x y : Wn) (w : World) : (Op.equalIn 10000 85 (.agg #[.int .i64 x.part, .int .i64 x.start, .int .i64 x.len]) (.agg #[.int .i64 y.part, .int .i64 y.start, .int .i64 y.len])).run Tryz.prog w = .ok ((x.part == y.part) && (x.start == y.start) && (x.len == y.len)) w := by
  have hS : Tryz.prog.underlying 85 = some (.struct (Tryz.prog.fieldsOf 85)) := by kernel_rfl
  have hp : Tryz.prog.stoodInHeld 85 = false := by kernel_rfl
  rw [show (10000 : Nat) = 9999 + 1 from rfl, run_equalIn_agg w 9999 85 _ _ hS hp]
  simp only [Program.fieldsOf, Tryz.underlying85]
  clear hS hp
  have ui := u_int
  have ai := Tryz.isAgg3
  have zi := Tryz.sizeOf3
  go_simp
  by_cases h0 : x.part = y.part <;> by_cases h1 : x.start = y.start <;> by_cases h2 : x.len = y.len <;> simp [h0, h1, h2]
set_option maxRecDepth 100000 in
set_option maxHeartbeats 1600000 in
theorem equal_Wn {w : World} {x y : Hd Wn} (hx : x.ok rdWn w) (hy : y.ok rdWn w) :
    Calls Tryz.prog 48 #[.slice x.A x.l.length x.c, .slice y.A y.l.length y.c] w fun e w' => ∃ b : Bool, e = .returned (.bool b) ∧ (b = true ↔ x.l = y.l) ∧ ∃ q, w' = w.drewN q := by
  have hz := hx.1.len
  have hzy := hy.1.len
  by_cases hl : x.l.length = y.l.length
  · have hm : Tryz.prog.eqGuardType Tryz.prog.depth 85 = false := by kernel_rfl
    have HL := Lib.hid hl
    have hxL := hx
    rw [← hl]
    obtain ⟨n, hn⟩ : ∃ n, n = x.l.length := ⟨_, rfl⟩
    rw [← hn]
    have HN := Lib.hid hn
    rw [← hn] at hz
    clear hn hl
    go_enter Tryz.func48, Tryz.ntmps48
    go_wp2_with fail
    go_loopw [5, 13] (fun _ i wr => ∃ (k q : Nat), k ≤ n ∧ i = .int .i64 (k : Int) ∧ wr = w.drewN q ∧ Hid (x.l.take k = y.l.take k)) (fun _ i _ => n - (intOf i).toNat)
    case atStart => exact ⟨0, 0, Nat.zero_le _, rfl, rfl, rfl⟩
    case round =>
      obtain ⟨k, q, hk, rfl, rfl, htk⟩ := hrel
      by_cases hlt : k < n
      · have hlx : k < x.l.length := by rw [← HN.out]; exact hlt
        have hly : k < y.l.length := by rw [← HL.out, ← HN.out]; exact hlt
        obtain ⟨xb, xo, hxA, hxb, hxc⟩ := hx.1.at_ Wn0 hlx
        obtain ⟨yb, yo, hyA, hyb, hyc⟩ := hy.1.at_ (k := k) Wn0 hly
        have x0 : w.cell? ⟨xb, xo + k * 3, none⟩ = some (.int .i64 (atD Wn0 x.l k).part) := hxc 0 _ rfl
        have x1 : w.cell? ⟨xb, xo + k * 3 + 1, none⟩ = some (.int .i64 (atD Wn0 x.l k).start) := hxc 1 _ rfl
        have x2 : w.cell? ⟨xb, xo + k * 3 + 2, none⟩ = some (.int .i64 (atD Wn0 x.l k).len) := hxc 2 _ rfl
        have y0 : w.cell? ⟨yb, yo + k * 3, none⟩ = some (.int .i64 (atD Wn0 y.l k).part) := hyc 0 _ rfl
        have y1 : w.cell? ⟨yb, yo + k * 3 + 1, none⟩ = some (.int .i64 (atD Wn0 y.l k).start) := hyc 1 _ rfl
        have y2 : w.cell? ⟨yb, yo + k * 3 + 2, none⟩ = some (.int .i64 (atD Wn0 y.l k).len) := hyc 2 _ rfl
        have HT : Hid (x.l.take (k + 1) = y.l.take (k + 1) ↔ atD Wn0 x.l k = atD Wn0 y.l k) := by
          unfold Hid
          rw [take_snocG Wn0 _ _ hlx, take_snocG Wn0 _ _ hly, htk.out]
          simp
        have HF : Hid (x.l = y.l → atD Wn0 x.l k = atD Wn0 y.l k) := fun h => by rw [h]
        rw [hxA, hyA]
        clear hxc hyc hlx hly
        have heq := run_eq_Wn (atD Wn0 x.l k) (atD Wn0 y.l k)
        have HB := Lib.hid (eqB_Wn (atD Wn0 x.l k) (atD Wn0 y.l k))
        generalize atD Wn0 x.l k = u at x0 x1 x2 HT HF heq HB
        generalize atD Wn0 y.l k = v at y0 y1 y2 HT HF heq HB
        generalize ((u.part == v.part) && (u.start == v.start) && (u.len == v.len)) = b at heq HB
        go_wp2_with fail
        go_quiet (fail)
        rename_i nq
        cases b with
        | false =>
          go_wp2_with fail
          go_ret
          refine ⟨false, rfl, ⟨(fun h => by cases h), fun h => ?_⟩, q + nq, by first | rfl | rw [World.drewN_drewN]⟩
          exact absurd (HB.out.2 (HF.out h)) (by decide)
        | true =>
          go_wp2_with fail
          exact ⟨⟨k + 1, q + nq, by omega, by go_num, by first | rfl | rw [World.drewN_drewN], HT.out.2 (HB.out.1 rfl)⟩, by simp [intOf]; omega⟩
      · obtain rfl : k = n := by omega
        have HE : Hid (x.l = y.l) := by
          have := htk.out
          rw [List.take_of_length_le (by rw [← HN.out]; exact Nat.le_refl _), List.take_of_length_le (by rw [← HL.out, ← HN.out]; exact Nat.le_refl _)] at this
          exact this
        go_wp2_with fail
        go_ret
        exact ⟨true, rfl, ⟨fun _ => HE.out, fun _ => rfl⟩, q, rfl⟩
  · have hne : ((x.l.length : Int) != (y.l.length : Int)) = true := by simp; omega
    have HL := Lib.hid hl
    clear hl
    go_enter Tryz.func48, Tryz.ntmps48
    go_wp2_with fail
    go_ret
    exact ⟨false, rfl, ⟨fun h => (by cases h), fun h => absurd (congrArg List.length h) HL.out⟩, 0, rfl⟩

theorem eqB_Lv (x y : Lv) : ((x.freq == y.freq) && (x.power == y.power)) = true ↔ x = y := by
  obtain ⟨a0, a1⟩ := x
  obtain ⟨b0, b1⟩ := y
  simp [Bool.and_eq_true]
set_option maxRecDepth 100000 in
theorem run_eq_Lv (x y : Lv) (w : World) : (Op.equalIn 10000 87 (.agg #[.int .i64 x.freq, .int .i64 x.power]) (.agg #[.int .i64 y.freq, .int .i64 y.power])).run Tryz.prog w = .ok ((x.freq == y.freq) && (x.power == y.power)) w := by
  have hS : Tryz.prog.underlying 87 = some (.struct (Tryz.prog.fieldsOf 87)) := by kernel_rfl
  have hp : Tryz.prog.stoodInHeld 87 = false := by kernel_rfl
  rw [show (10000 : Nat) = 9999 + 1 from rfl, run_equalIn_agg w 9999 87 _ _ hS hp]
  simp only [Program.fieldsOf, Tryz.underlying87]
  clear hS hp
  have ui := u_int
  have ai := Tryz.isAgg3
  have zi := Tryz.sizeOf3
  go_simp
  by_cases h0 : x.freq = y.freq <;> by_cases h1 : x.power = y.power <;> simp [h0, h1]
set_option maxRecDepth 100000 in
set_option maxHeartbeats 1600000 in
theorem equal_Lv {w : World} {x y : Hd Lv} (hx : x.ok rdLv w) (hy : y.ok rdLv w) :
    Calls Tryz.prog 112 #[.slice x.A x.l.length x.c, .slice y.A y.l.length y.c] w fun e w' => ∃ b : Bool, e = .returned (.bool b) ∧ (b = true ↔ x.l = y.l) ∧ ∃ q, w' = w.drewN q := by
  have hz := hx.1.len
  have hzy := hy.1.len
  by_cases hl : x.l.length = y.l.length
  · have hm : Tryz.prog.eqGuardType Tryz.prog.depth 87 = false := by kernel_rfl
    have HL := Lib.hid hl
    have hxL := hx
    rw [← hl]
    obtain ⟨n, hn⟩ : ∃ n, n = x.l.length := ⟨_, rfl⟩
    rw [← hn]
    have HN := Lib.hid hn
    rw [← hn] at hz
    clear hn hl
    go_enter Tryz.func112, Tryz.ntmps112
    go_wp2_with fail
    go_loopw [5, 13] (fun _ i wr => ∃ (k q : Nat), k ≤ n ∧ i = .int .i64 (k : Int) ∧ wr = w.drewN q ∧ Hid (x.l.take k = y.l.take k)) (fun _ i _ => n - (intOf i).toNat)
    case atStart => exact ⟨0, 0, Nat.zero_le _, rfl, rfl, rfl⟩
    case round =>
      obtain ⟨k, q, hk, rfl, rfl, htk⟩ := hrel
      by_cases hlt : k < n
      · have hlx : k < x.l.length := by rw [← HN.out]; exact hlt
        have hly : k < y.l.length := by rw [← HL.out, ← HN.out]; exact hlt
        obtain ⟨xb, xo, hxA, hxb, hxc⟩ := hx.1.at_ Lv0 hlx
        obtain ⟨yb, yo, hyA, hyb, hyc⟩ := hy.1.at_ (k := k) Lv0 hly
        have x0 : w.cell? ⟨xb, xo + k * 2, none⟩ = some (.int .i64 (atD Lv0 x.l k).freq) := hxc 0 _ rfl
        have x1 : w.cell? ⟨xb, xo + k * 2 + 1, none⟩ = some (.int .i64 (atD Lv0 x.l k).power) := hxc 1 _ rfl
        have y0 : w.cell? ⟨yb, yo + k * 2, none⟩ = some (.int .i64 (atD Lv0 y.l k).freq) := hyc 0 _ rfl
        have y1 : w.cell? ⟨yb, yo + k * 2 + 1, none⟩ = some (.int .i64 (atD Lv0 y.l k).power) := hyc 1 _ rfl
        have HT : Hid (x.l.take (k + 1) = y.l.take (k + 1) ↔ atD Lv0 x.l k = atD Lv0 y.l k) := by
          unfold Hid
          rw [take_snocG Lv0 _ _ hlx, take_snocG Lv0 _ _ hly, htk.out]
          simp
        have HF : Hid (x.l = y.l → atD Lv0 x.l k = atD Lv0 y.l k) := fun h => by rw [h]
        rw [hxA, hyA]
        clear hxc hyc hlx hly
        have heq := run_eq_Lv (atD Lv0 x.l k) (atD Lv0 y.l k)
        have HB := Lib.hid (eqB_Lv (atD Lv0 x.l k) (atD Lv0 y.l k))
        generalize atD Lv0 x.l k = u at x0 x1 HT HF heq HB
        generalize atD Lv0 y.l k = v at y0 y1 HT HF heq HB
        generalize ((u.freq == v.freq) && (u.power == v.power)) = b at heq HB
        go_wp2_with fail
        go_quiet (fail)
        rename_i nq
        cases b with
        | false =>
          go_wp2_with fail
          go_ret
          refine ⟨false, rfl, ⟨(fun h => by cases h), fun h => ?_⟩, q + nq, by first | rfl | rw [World.drewN_drewN]⟩
          exact absurd (HB.out.2 (HF.out h)) (by decide)
        | true =>
          go_wp2_with fail
          exact ⟨⟨k + 1, q + nq, by omega, by go_num, by first | rfl | rw [World.drewN_drewN], HT.out.2 (HB.out.1 rfl)⟩, by simp [intOf]; omega⟩
      · obtain rfl : k = n := by omega
        have HE : Hid (x.l = y.l) := by
          have := htk.out
          rw [List.take_of_length_le (by rw [← HN.out]; exact Nat.le_refl _), List.take_of_length_le (by rw [← HL.out, ← HN.out]; exact Nat.le_refl _)] at this
          exact this
        go_wp2_with fail
        go_ret
        exact ⟨true, rfl, ⟨fun _ => HE.out, fun _ => rfl⟩, q, rfl⟩
  · have hne : ((x.l.length : Int) != (y.l.length : Int)) = true := by simp; omega
    have HL := Lib.hid hl
    clear hl
    go_enter Tryz.func112, Tryz.ntmps112
    go_wp2_with fail
    go_ret
    exact ⟨false, rfl, ⟨fun h => (by cases h), fun h => absurd (congrArg List.length h) HL.out⟩, 0, rfl⟩

theorem eqB_Np (x y : Np) : ((x.power == y.power) && (x.enter == y.enter) && (x.wake == y.wake)) = true ↔ x = y := by
  obtain ⟨a0, a1, a2⟩ := x
  obtain ⟨b0, b1, b2⟩ := y
  simp [Bool.and_eq_true, and_assoc]
set_option maxRecDepth 100000 in
theorem run_eq_Np (x y : Np) (w : World) : (Op.equalIn 10000 89 (.agg #[.int .i64 x.power, .int .i64 x.enter, .int .i64 x.wake]) (.agg #[.int .i64 y.power, .int .i64 y.enter, .int .i64 y.wake])).run Tryz.prog w = .ok ((x.power == y.power) && (x.enter == y.enter) && (x.wake == y.wake)) w := by
  have hS : Tryz.prog.underlying 89 = some (.struct (Tryz.prog.fieldsOf 89)) := by kernel_rfl
  have hp : Tryz.prog.stoodInHeld 89 = false := by kernel_rfl
  rw [show (10000 : Nat) = 9999 + 1 from rfl, run_equalIn_agg w 9999 89 _ _ hS hp]
  simp only [Program.fieldsOf, Tryz.underlying89]
  clear hS hp
  have ui := u_int
  have ai := Tryz.isAgg3
  have zi := Tryz.sizeOf3
  go_simp
  by_cases h0 : x.power = y.power <;> by_cases h1 : x.enter = y.enter <;> by_cases h2 : x.wake = y.wake <;> simp [h0, h1, h2]
set_option maxRecDepth 100000 in
set_option maxHeartbeats 1600000 in
theorem equal_Np {w : World} {x y : Hd Np} (hx : x.ok rdNp w) (hy : y.ok rdNp w) :
    Calls Tryz.prog 113 #[.slice x.A x.l.length x.c, .slice y.A y.l.length y.c] w fun e w' => ∃ b : Bool, e = .returned (.bool b) ∧ (b = true ↔ x.l = y.l) ∧ ∃ q, w' = w.drewN q := by
  have hz := hx.1.len
  have hzy := hy.1.len
  by_cases hl : x.l.length = y.l.length
  · have hm : Tryz.prog.eqGuardType Tryz.prog.depth 89 = false := by kernel_rfl
    have HL := Lib.hid hl
    have hxL := hx
    rw [← hl]
    obtain ⟨n, hn⟩ : ∃ n, n = x.l.length := ⟨_, rfl⟩
    rw [← hn]
    have HN := Lib.hid hn
    rw [← hn] at hz
    clear hn hl
    go_enter Tryz.func113, Tryz.ntmps113
    go_wp2_with fail
    go_loopw [5, 13] (fun _ i wr => ∃ (k q : Nat), k ≤ n ∧ i = .int .i64 (k : Int) ∧ wr = w.drewN q ∧ Hid (x.l.take k = y.l.take k)) (fun _ i _ => n - (intOf i).toNat)
    case atStart => exact ⟨0, 0, Nat.zero_le _, rfl, rfl, rfl⟩
    case round =>
      obtain ⟨k, q, hk, rfl, rfl, htk⟩ := hrel
      by_cases hlt : k < n
      · have hlx : k < x.l.length := by rw [← HN.out]; exact hlt
        have hly : k < y.l.length := by rw [← HL.out, ← HN.out]; exact hlt
        obtain ⟨xb, xo, hxA, hxb, hxc⟩ := hx.1.at_ Np0 hlx
        obtain ⟨yb, yo, hyA, hyb, hyc⟩ := hy.1.at_ (k := k) Np0 hly
        have x0 : w.cell? ⟨xb, xo + k * 3, none⟩ = some (.int .i64 (atD Np0 x.l k).power) := hxc 0 _ rfl
        have x1 : w.cell? ⟨xb, xo + k * 3 + 1, none⟩ = some (.int .i64 (atD Np0 x.l k).enter) := hxc 1 _ rfl
        have x2 : w.cell? ⟨xb, xo + k * 3 + 2, none⟩ = some (.int .i64 (atD Np0 x.l k).wake) := hxc 2 _ rfl
        have y0 : w.cell? ⟨yb, yo + k * 3, none⟩ = some (.int .i64 (atD Np0 y.l k).power) := hyc 0 _ rfl
        have y1 : w.cell? ⟨yb, yo + k * 3 + 1, none⟩ = some (.int .i64 (atD Np0 y.l k).enter) := hyc 1 _ rfl
        have y2 : w.cell? ⟨yb, yo + k * 3 + 2, none⟩ = some (.int .i64 (atD Np0 y.l k).wake) := hyc 2 _ rfl
        have HT : Hid (x.l.take (k + 1) = y.l.take (k + 1) ↔ atD Np0 x.l k = atD Np0 y.l k) := by
          unfold Hid
          rw [take_snocG Np0 _ _ hlx, take_snocG Np0 _ _ hly, htk.out]
          simp
        have HF : Hid (x.l = y.l → atD Np0 x.l k = atD Np0 y.l k) := fun h => by rw [h]
        rw [hxA, hyA]
        clear hxc hyc hlx hly
        have heq := run_eq_Np (atD Np0 x.l k) (atD Np0 y.l k)
        have HB := Lib.hid (eqB_Np (atD Np0 x.l k) (atD Np0 y.l k))
        generalize atD Np0 x.l k = u at x0 x1 x2 HT HF heq HB
        generalize atD Np0 y.l k = v at y0 y1 y2 HT HF heq HB
        generalize ((u.power == v.power) && (u.enter == v.enter) && (u.wake == v.wake)) = b at heq HB
        go_wp2_with fail
        go_quiet (fail)
        rename_i nq
        cases b with
        | false =>
          go_wp2_with fail
          go_ret
          refine ⟨false, rfl, ⟨(fun h => by cases h), fun h => ?_⟩, q + nq, by first | rfl | rw [World.drewN_drewN]⟩
          exact absurd (HB.out.2 (HF.out h)) (by decide)
        | true =>
          go_wp2_with fail
          exact ⟨⟨k + 1, q + nq, by omega, by go_num, by first | rfl | rw [World.drewN_drewN], HT.out.2 (HB.out.1 rfl)⟩, by simp [intOf]; omega⟩
      · obtain rfl : k = n := by omega
        have HE : Hid (x.l = y.l) := by
          have := htk.out
          rw [List.take_of_length_le (by rw [← HN.out]; exact Nat.le_refl _), List.take_of_length_le (by rw [← HL.out, ← HN.out]; exact Nat.le_refl _)] at this
          exact this
        go_wp2_with fail
        go_ret
        exact ⟨true, rfl, ⟨fun _ => HE.out, fun _ => rfl⟩, q, rfl⟩
  · have hne : ((x.l.length : Int) != (y.l.length : Int)) = true := by simp; omega
    have HL := Lib.hid hl
    clear hl
    go_enter Tryz.func113, Tryz.ntmps113
    go_wp2_with fail
    go_ret
    exact ⟨false, rfl, ⟨fun h => (by cases h), fun h => absurd (congrArg List.length h) HL.out⟩, 0, rfl⟩

set_option maxRecDepth 100000 in
theorem run_eq_En (a b c d : Int) (w : World) : (Op.equalIn 9999 70 (.agg #[.int .i64 a, .int .i64 b]) (.agg #[.int .i64 c, .int .i64 d])).run Tryz.prog w = .ok ((a == c) && (b == d)) w := by
  have hS : Tryz.prog.underlying 70 = some (.struct (Tryz.prog.fieldsOf 70)) := by kernel_rfl
  have hp : Tryz.prog.stoodInHeld 70 = false := by kernel_rfl
  rw [show (9999 : Nat) = 9998 + 1 from rfl, run_equalIn_agg w 9998 70 _ _ hS hp]
  simp only [Program.fieldsOf, Tryz.underlying70]
  have ui := u_int
  have ai := Tryz.isAgg3
  have zi := Tryz.sizeOf3
  clear hS hp
  go_simp
  by_cases h0 : a = c <;> by_cases h1 : b = d <;> simp [h0, h1]
theorem eqB_Ch (x y : Ch) : (((x.fr.part == y.fr.part) && (x.fr.port == y.fr.port)) && ((x.to.part == y.to.part) && (x.to.port == y.to.port))) = true ↔ x = y := by
  obtain ⟨⟨a, b⟩, ⟨c, d⟩⟩ := x
  obtain ⟨⟨a', b'⟩, ⟨c', d'⟩⟩ := y
  simp [Bool.and_eq_true, and_assoc]
set_option maxRecDepth 100000 in
theorem run_eq_Ch (x y : Ch) (w : World) : (Op.equalIn 10000 72 (.agg #[.int .i64 x.fr.part, .int .i64 x.fr.port, .int .i64 x.to.part, .int .i64 x.to.port]) (.agg #[.int .i64 y.fr.part, .int .i64 y.fr.port, .int .i64 y.to.part, .int .i64 y.to.port])).run Tryz.prog w = .ok ((((x.fr.part == y.fr.part) && (x.fr.port == y.fr.port)) && ((x.to.part == y.to.part) && (x.to.port == y.to.port)))) w := by
  have hS : Tryz.prog.underlying 72 = some (.struct (Tryz.prog.fieldsOf 72)) := by kernel_rfl
  have hp : Tryz.prog.stoodInHeld 72 = false := by kernel_rfl
  have he := run_eq_En
  have ae := Tryz.isAgg70
  have ze := Tryz.sizeOf70
  rw [show (10000 : Nat) = 9999 + 1 from rfl, run_equalIn_agg w 9999 72 _ _ hS hp]
  simp only [Program.fieldsOf, Tryz.underlying72]
  clear hS hp
  have ui := u_int
  have ai := Tryz.isAgg3
  have zi := Tryz.sizeOf3
  go_simp
  by_cases h0 : x.fr.part = y.fr.part <;> by_cases h1 : x.fr.port = y.fr.port <;> by_cases h2 : x.to.part = y.to.part <;> by_cases h3 : x.to.port = y.to.port <;> simp [h0, h1, h2, h3]
set_option maxRecDepth 100000 in
set_option maxHeartbeats 1600000 in
theorem equal_Ch {w : World} {x y : Hd Ch} (hx : x.ok rdCh w) (hy : y.ok rdCh w) :
    Calls Tryz.prog 51 #[.slice x.A x.l.length x.c, .slice y.A y.l.length y.c] w fun e w' => ∃ b : Bool, e = .returned (.bool b) ∧ (b = true ↔ x.l = y.l) ∧ ∃ q, w' = w.drewN q := by
  have hz := hx.1.len
  have hzy := hy.1.len
  by_cases hl : x.l.length = y.l.length
  · have hm : Tryz.prog.eqGuardType Tryz.prog.depth 72 = false := by kernel_rfl
    have HL := Lib.hid hl
    have hxL := hx
    rw [← hl]
    obtain ⟨n, hn⟩ : ∃ n, n = x.l.length := ⟨_, rfl⟩
    rw [← hn]
    have HN := Lib.hid hn
    rw [← hn] at hz
    clear hn hl
    go_enter Tryz.func51, Tryz.ntmps51
    go_wp2_with fail
    go_loopw [5, 13] (fun _ i wr => ∃ (k q : Nat), k ≤ n ∧ i = .int .i64 (k : Int) ∧ wr = w.drewN q ∧ Hid (x.l.take k = y.l.take k)) (fun _ i _ => n - (intOf i).toNat)
    case atStart => exact ⟨0, 0, Nat.zero_le _, rfl, rfl, rfl⟩
    case round =>
      obtain ⟨k, q, hk, rfl, rfl, htk⟩ := hrel
      by_cases hlt : k < n
      · have hlx : k < x.l.length := by rw [← HN.out]; exact hlt
        have hly : k < y.l.length := by rw [← HL.out, ← HN.out]; exact hlt
        obtain ⟨xb, xo, hxA, hxb, hxc⟩ := hx.1.at_ Ch0 hlx
        obtain ⟨yb, yo, hyA, hyb, hyc⟩ := hy.1.at_ (k := k) Ch0 hly
        have x0 : w.cell? ⟨xb, xo + k * 4, none⟩ = some (.int .i64 (atD Ch0 x.l k).fr.part) := hxc 0 _ rfl
        have x1 : w.cell? ⟨xb, xo + k * 4 + 1, none⟩ = some (.int .i64 (atD Ch0 x.l k).fr.port) := hxc 1 _ rfl
        have x2 : w.cell? ⟨xb, xo + k * 4 + 2, none⟩ = some (.int .i64 (atD Ch0 x.l k).to.part) := hxc 2 _ rfl
        have x3 : w.cell? ⟨xb, xo + k * 4 + 3, none⟩ = some (.int .i64 (atD Ch0 x.l k).to.port) := hxc 3 _ rfl
        have y0 : w.cell? ⟨yb, yo + k * 4, none⟩ = some (.int .i64 (atD Ch0 y.l k).fr.part) := hyc 0 _ rfl
        have y1 : w.cell? ⟨yb, yo + k * 4 + 1, none⟩ = some (.int .i64 (atD Ch0 y.l k).fr.port) := hyc 1 _ rfl
        have y2 : w.cell? ⟨yb, yo + k * 4 + 2, none⟩ = some (.int .i64 (atD Ch0 y.l k).to.part) := hyc 2 _ rfl
        have y3 : w.cell? ⟨yb, yo + k * 4 + 3, none⟩ = some (.int .i64 (atD Ch0 y.l k).to.port) := hyc 3 _ rfl
        have HT : Hid (x.l.take (k + 1) = y.l.take (k + 1) ↔ atD Ch0 x.l k = atD Ch0 y.l k) := by
          unfold Hid
          rw [take_snocG Ch0 _ _ hlx, take_snocG Ch0 _ _ hly, htk.out]
          simp
        have HF : Hid (x.l = y.l → atD Ch0 x.l k = atD Ch0 y.l k) := fun h => by rw [h]
        rw [hxA, hyA]
        clear hxc hyc hlx hly
        have heq := run_eq_Ch (atD Ch0 x.l k) (atD Ch0 y.l k)
        have HB := Lib.hid (eqB_Ch (atD Ch0 x.l k) (atD Ch0 y.l k))
        generalize atD Ch0 x.l k = u at x0 x1 x2 x3 HT HF heq HB
        generalize atD Ch0 y.l k = v at y0 y1 y2 y3 HT HF heq HB
        generalize ((((u.fr.part == v.fr.part) && (u.fr.port == v.fr.port)) && ((u.to.part == v.to.part) && (u.to.port == v.to.port)))) = b at heq HB
        go_wp2_with fail
        go_quiet (fail)
        rename_i nq
        cases b with
        | false =>
          go_wp2_with fail
          go_ret
          refine ⟨false, rfl, ⟨(fun h => by cases h), fun h => ?_⟩, q + nq, by first | rfl | rw [World.drewN_drewN]⟩
          exact absurd (HB.out.2 (HF.out h)) (by decide)
        | true =>
          go_wp2_with fail
          exact ⟨⟨k + 1, q + nq, by omega, by go_num, by first | rfl | rw [World.drewN_drewN], HT.out.2 (HB.out.1 rfl)⟩, by simp [intOf]; omega⟩
      · obtain rfl : k = n := by omega
        have HE : Hid (x.l = y.l) := by
          have := htk.out
          rw [List.take_of_length_le (by rw [← HN.out]; exact Nat.le_refl _), List.take_of_length_le (by rw [← HL.out, ← HN.out]; exact Nat.le_refl _)] at this
          exact this
        go_wp2_with fail
        go_ret
        exact ⟨true, rfl, ⟨fun _ => HE.out, fun _ => rfl⟩, q, rfl⟩
  · have hne : ((x.l.length : Int) != (y.l.length : Int)) = true := by simp; omega
    have HL := Lib.hid hl
    clear hl
    go_enter Tryz.func51, Tryz.ntmps51
    go_wp2_with fail
    go_ret
    exact ⟨false, rfl, ⟨fun h => (by cases h), fun h => absurd (congrArg List.length h) HL.out⟩, 0, rfl⟩
end Go.Proofs.YtahjnonkhbpnpaaGreat
/- conf's Same: slices.Equal of ints; what two configurations have in common. -/
namespace Go.Proofs.YtahjnonkhbpnpaaGreat
open Go.RowKit
set_option maxRecDepth 100000 in
set_option maxHeartbeats 1600000 in
theorem equal_Int {w : World} {x y : Hd Int} (hx : x.okI w) (hy : y.okI w) :
    Calls Tryz.prog 54 #[.slice x.A x.l.length x.c, .slice y.A y.l.length y.c] w fun e w' => ∃ b : Bool, e = .returned (.bool b) ∧ (b = true ↔ x.l = y.l) ∧ ∃ q, w' = w.drewN q := by
  have hz := hx.1.len_le
  have hzy := hy.1.len_le
  by_cases hl : x.l.length = y.l.length
  · have HL := Lib.hid hl
    rw [← hl]
    obtain ⟨n, hn⟩ : ∃ n, n = x.l.length := ⟨_, rfl⟩
    rw [← hn]
    have HN := Lib.hid hn
    rw [← hn] at hz
    clear hn hl
    go_enter Tryz.func54, Tryz.ntmps54
    go_wp2_with fail
    go_loopw [5, 13] (fun _ i wr => ∃ (k q : Nat), k ≤ n ∧ i = .int .i64 (k : Int) ∧ wr = w.drewN q ∧ Hid (x.l.take k = y.l.take k)) (fun _ i _ => n - (intOf i).toNat)
    case atStart => exact ⟨0, 0, Nat.zero_le _, rfl, rfl, rfl⟩
    case round =>
      obtain ⟨k, q, hk, rfl, rfl, htk⟩ := hrel
      by_cases hlt : k < n
      · have hlx : k < x.l.length := by rw [← HN.out]; exact hlt
        have hly : k < y.l.length := by rw [← HL.out, ← HN.out]; exact hlt
        obtain ⟨xb, xo, hxA, hxb, x0⟩ := hx.at_ hlx
        obtain ⟨yb, yo, hyA, hyb, y0⟩ := hy.at_ (k := k) hly
        have HT : Hid (x.l.take (k + 1) = y.l.take (k + 1) ↔ at0 x.l k = at0 y.l k) := by
          unfold Hid
          rw [take_snocG (0 : Int) _ _ hlx, take_snocG (0 : Int) _ _ hly, htk.out]
          simp [at0, atD]
        have HF : Hid (x.l = y.l → at0 x.l k = at0 y.l k) := fun h => by rw [h]
        rw [hxA, hyA]
        clear hlx hly
        generalize at0 x.l k = u at x0 HT HF
        generalize at0 y.l k = v at y0 HT HF
        by_cases huv : u = v
        · have hb : (u != v) = false := by simp [huv]
          have HUV := Lib.hid huv
          clear huv
          go_wp2_with fail
          go_quiet (fail)
          rename_i nq
          go_wp2_with fail
          exact ⟨⟨k + 1, q + nq, by omega, by go_num, by first | rfl | rw [World.drewN_drewN], HT.out.2 HUV.out⟩, by simp [intOf]; omega⟩
        · have hb : (u != v) = true := by simp [huv]
          have HUV := Lib.hid huv
          clear huv
          go_wp2_with fail
          go_quiet (fail)
          rename_i nq
          go_wp2_with fail
          go_ret
          exact ⟨false, rfl, ⟨(fun h => by cases h), fun h => absurd (HF.out h) HUV.out⟩, q + nq, by first | rfl | rw [World.drewN_drewN]⟩
      · obtain rfl : k = n := by omega
        have HE : Hid (x.l = y.l) := by
          have := htk.out
          rw [List.take_of_length_le (by rw [← HN.out]; exact Nat.le_refl _), List.take_of_length_le (by rw [← HL.out, ← HN.out]; exact Nat.le_refl _)] at this
          exact this
        go_wp2_with fail
        go_ret
        exact ⟨true, rfl, ⟨fun _ => HE.out, fun _ => rfl⟩, q, rfl⟩
  · have hne : ((x.l.length : Int) != (y.l.length : Int)) = true := by simp; omega
    have HL := Lib.hid hl
    clear hl
    go_enter Tryz.func54, Tryz.ntmps54
    go_wp2_with fail
    go_ret
    exact ⟨false, rfl, ⟨fun h => (by cases h), fun h => absurd (congrArg List.length h) HL.out⟩, 0, rfl⟩
/-! ### what is had, without where it lies -/
def bH {α : Type} (h : Hd α) : Hd α := ⟨none, 0, h.l⟩
def bPt (x : Pt) : Pt := ⟨bH x.regs, bH x.procs, bH x.ports, bH x.sems, x.flags, bH x.pools, bH x.slates, x.cap, x.bud, x.lad, bH x.acts⟩
def bMd (x : Md) : Md := ⟨x.frame, bH x.wins⟩
def bPw (x : Pw) : Pw := ⟨bH x.levels, bH x.naps, x.sw, x.idle, x.change, x.quant, x.slow, x.ppm⟩
def bHm {α : Type} (f : α → α) (h : Hd α) : Hd α := ⟨none, 0, h.l.map f⟩
def bCf (x : Cf) : Cf := ⟨bHm bPt x.parts, bH x.chans, bHm bMd x.modes, bPw x.pw, ⟨bH x.shed.down, bH x.shed.up⟩⟩
theorem bH_eq {α : Type} {x y : Hd α} : bH x = bH y ↔ x.l = y.l := by
  unfold bH
  simp
theorem bHm_eq {α : Type} {f : α → α} {x y : Hd α} : bHm f x = bHm f y ↔ x.l.map f = y.l.map f := by
  unfold bHm
  simp
def SmPost (w : World) (P : Prop) (e : Ending) (w' : World) : Prop := ∃ b : Bool, e = .returned (.bool b) ∧ (b = true ↔ P) ∧ Below w.heap.size w w'
theorem SmPost.mk {w w' : World} {P : Prop} {e : Ending} (b : Bool) (h1 : e = .returned (.bool b)) (h2 : b = true ↔ P) (h3 : Below w.heap.size w w') : SmPost w P e w' := ⟨b, h1, h2, h3⟩
end Go.Proofs.YtahjnonkhbpnpaaGreat
/- A configuration's bytes: they tell what they are of, and where each part ends; what is read of them. The plain law. -/
namespace Go.Proofs.YtahjnonkhbpnpaaGreat
open Go.RowKit
theorem gBool_vb (b : Bool) (s : List UInt8) : gBool ⟨vbool b ++ s, 0⟩ = (b, ⟨s, 0⟩) := by
  cases b <;> rfl
/-- bytes of one thing tell where they end, and what is had. -/
def Pfx {α β : Type} (enc : α → List UInt8) (b : α → β) (rng : α → Prop) : Prop := ∀ x y r r', rng x → rng y → enc x ++ r = enc y ++ r' → b x = b y ∧ r = r'
theorem pfx_int : Pfx vint id i64 := by
  intro x y r r' hx hy h
  have h1 := gInt_vint hx r
  rw [h, gInt_vint hy r'] at h1
  exact ⟨(congrArg Prod.fst h1).symm, (congrArg (fun p : Int × RS => p.2.l) h1).symm⟩
theorem pfx_bool : Pfx vbool id (fun _ => True) := by
  intro x y r r' _ _ h
  have h1 := gBool_vb x r
  rw [h, gBool_vb y r'] at h1
  exact ⟨(congrArg Prod.fst h1).symm, (congrArg (fun p : Bool × RS => p.2.l) h1).symm⟩
section
variable {α β : Type} {enc : α → List UInt8} {b : α → β} {rng : α → Prop}
theorem pfx_flat (h : Pfx enc b rng) : ∀ (l l' : List α) (r r' : List UInt8), l.length = l'.length → (∀ x ∈ l, rng x) → (∀ x ∈ l', rng x) → l.flatMap enc ++ r = l'.flatMap enc ++ r' → l.map b = l'.map b ∧ r = r'
  | [], [], r, r', _, _, _, e => ⟨rfl, e⟩
  | [], _ :: _, _, _, hl, _, _, _ => by simp at hl
  | _ :: _, [], _, _, hl, _, _, _ => by simp at hl
  | x :: l, y :: l', r, r', hl, hx, hy, e => by
    rw [List.flatMap_cons, List.flatMap_cons, List.append_assoc, List.append_assoc] at e
    obtain ⟨e1, e⟩ := h x y _ _ (hx x (by simp)) (hy y (by simp)) e
    obtain ⟨e2, e⟩ := pfx_flat h l l' r r' (by simpa using hl) (fun z hz => hx z (by simp [hz])) (fun z hz => hy z (by simp [hz])) e
    exact ⟨by rw [List.map_cons, List.map_cons, e1, e2], e⟩
theorem pfx_lst (h : Pfx enc b rng) {l l' : List α} {r r' : List UInt8} (hn : l.length ≤ 9223372036854775807) (hn' : l'.length ≤ 9223372036854775807) (hx : ∀ x ∈ l, rng x) (hy : ∀ x ∈ l', rng x) (e : lst enc l ++ r = lst enc l' ++ r') : l.map b = l'.map b ∧ r = r' := by
  unfold lst at e
  rw [List.append_assoc, List.append_assoc] at e
  obtain ⟨e1, e⟩ := pfx_int _ _ _ _ (by unfold i64; omega) (by unfold i64; omega) e
  have e1' : l.length = l'.length := by
    have : (l.length : Int) = (l'.length : Int) := e1
    omega
  exact pfx_flat h l l' r r' e1' hx hy e
theorem pfx_lstI {rng : α → Prop} (h : Pfx enc id rng) {l l' : List α} {r r' : List UInt8} (hn : l.length ≤ 9223372036854775807) (hn' : l'.length ≤ 9223372036854775807) (hx : ∀ x ∈ l, rng x) (hy : ∀ x ∈ l', rng x) (e : lst enc l ++ r = lst enc l' ++ r') : l = l' ∧ r = r' := by
  have := pfx_lst h hn hn' hx hy e
  rw [List.map_id, List.map_id] at this
  exact this
end
theorem pfx_Rg (W : World) : Pfx encRg id (rdRg.ok W) := by
  rintro ⟨a, b, c⟩ ⟨a', b', c'⟩ r r' ⟨h1, h2, -⟩ ⟨k1, k2, -⟩ e
  simp only [encRg, intsB_cons, intsB_nil, List.append_assoc, List.nil_append] at e
  obtain ⟨e1, e⟩ := pfx_int _ _ _ _ h1 k1 e
  obtain ⟨e2, e⟩ := pfx_int _ _ _ _ h2 k2 e
  obtain ⟨e3, ef⟩ := pfx_bool _ _ _ _ trivial trivial e
  cases e1; cases e2; cases e3
  exact ⟨rfl, ef⟩
theorem pfx_Pc (W : World) : Pfx encPc id (rdPc.ok W) := by
  rintro ⟨a, b, c⟩ ⟨a', b', c'⟩ r r' ⟨h1, h2, h3⟩ ⟨k1, k2, k3⟩ e
  simp only [encPc, intsB_cons, intsB_nil, List.append_assoc, List.nil_append] at e
  obtain ⟨e1, e⟩ := pfx_int _ _ _ _ h1 k1 e
  obtain ⟨e2, e⟩ := pfx_int _ _ _ _ h2 k2 e
  obtain ⟨e3, ef⟩ := pfx_int _ _ _ _ h3 k3 e
  cases e1; cases e2; cases e3
  exact ⟨rfl, ef⟩
theorem pfx_Wn (W : World) : Pfx encWn id (rdWn.ok W) := by
  rintro ⟨a, b, c⟩ ⟨a', b', c'⟩ r r' ⟨h1, h2, h3⟩ ⟨k1, k2, k3⟩ e
  simp only [encWn, intsB_cons, intsB_nil, List.append_assoc, List.nil_append] at e
  obtain ⟨e1, e⟩ := pfx_int _ _ _ _ h1 k1 e
  obtain ⟨e2, e⟩ := pfx_int _ _ _ _ h2 k2 e
  obtain ⟨e3, ef⟩ := pfx_int _ _ _ _ h3 k3 e
  cases e1; cases e2; cases e3
  exact ⟨rfl, ef⟩
theorem pfx_Np (W : World) : Pfx encNp id (rdNp.ok W) := by
  rintro ⟨a, b, c⟩ ⟨a', b', c'⟩ r r' ⟨h1, h2, h3⟩ ⟨k1, k2, k3⟩ e
  simp only [encNp, intsB_cons, intsB_nil, List.append_assoc, List.nil_append] at e
  obtain ⟨e1, e⟩ := pfx_int _ _ _ _ h1 k1 e
  obtain ⟨e2, e⟩ := pfx_int _ _ _ _ h2 k2 e
  obtain ⟨e3, ef⟩ := pfx_int _ _ _ _ h3 k3 e
  cases e1; cases e2; cases e3
  exact ⟨rfl, ef⟩
theorem pfx_Po (W : World) : Pfx encPo id (rdPo.ok W) := by
  rintro ⟨a, b, c, d⟩ ⟨a', b', c', d'⟩ r r' ⟨-, -, h3, h4⟩ ⟨-, -, k3, k4⟩ e
  simp only [encPo, intsB_cons, intsB_nil, List.append_assoc, List.nil_append] at e
  obtain ⟨e1, e⟩ := pfx_bool _ _ _ _ trivial trivial e
  obtain ⟨e2, e⟩ := pfx_bool _ _ _ _ trivial trivial e
  obtain ⟨e3, e⟩ := pfx_int _ _ _ _ h3 k3 e
  obtain ⟨e4, ef⟩ := pfx_int _ _ _ _ h4 k4 e
  cases e1; cases e2; cases e3; cases e4
  exact ⟨rfl, ef⟩
theorem pfx_Sm (W : World) : Pfx encSm id (rdSm.ok W) := by
  rintro ⟨a, b⟩ ⟨a', b'⟩ r r' ⟨h1, h2⟩ ⟨k1, k2⟩ e
  simp only [encSm, intsB_cons, intsB_nil, List.append_assoc, List.nil_append] at e
  obtain ⟨e1, e⟩ := pfx_int _ _ _ _ h1 k1 e
  obtain ⟨e2, ef⟩ := pfx_int _ _ _ _ h2 k2 e
  cases e1; cases e2
  exact ⟨rfl, ef⟩
theorem pfx_Pl (W : World) : Pfx encPl id (rdPl.ok W) := by
  rintro ⟨a, b⟩ ⟨a', b'⟩ r r' ⟨h1, h2⟩ ⟨k1, k2⟩ e
  simp only [encPl, intsB_cons, intsB_nil, List.append_assoc, List.nil_append] at e
  obtain ⟨e1, e⟩ := pfx_int _ _ _ _ h1 k1 e
  obtain ⟨e2, ef⟩ := pfx_int _ _ _ _ h2 k2 e
  cases e1; cases e2
  exact ⟨rfl, ef⟩
theorem pfx_Lv (W : World) : Pfx encLv id (rdLv.ok W) := by
  rintro ⟨a, b⟩ ⟨a', b'⟩ r r' ⟨h1, h2⟩ ⟨k1, k2⟩ e
  simp only [encLv, intsB_cons, intsB_nil, List.append_assoc, List.nil_append] at e
  obtain ⟨e1, e⟩ := pfx_int _ _ _ _ h1 k1 e
  obtain ⟨e2, ef⟩ := pfx_int _ _ _ _ h2 k2 e
  cases e1; cases e2
  exact ⟨rfl, ef⟩
theorem pfx_Ch (W : World) : Pfx encCh id (rdCh.ok W) := by
  rintro ⟨⟨a, b⟩, ⟨c, d⟩⟩ ⟨⟨a', b'⟩, ⟨c', d'⟩⟩ r r' ⟨⟨h1, h2⟩, ⟨h3, h4⟩⟩ ⟨⟨k1, k2⟩, ⟨k3, k4⟩⟩ e
  simp only [encCh, intsB_cons, intsB_nil, List.append_assoc, List.nil_append] at e
  obtain ⟨e1, e⟩ := pfx_int _ _ _ _ h1 k1 e
  obtain ⟨e2, e⟩ := pfx_int _ _ _ _ h2 k2 e
  obtain ⟨e3, e⟩ := pfx_int _ _ _ _ h3 k3 e
  obtain ⟨e4, ef⟩ := pfx_int _ _ _ _ h4 k4 e
  cases e1; cases e2; cases e3; cases e4
  exact ⟨rfl, ef⟩
section
variable {α : Type} {P : Program} {t : TypeId} {r : Rd P t α} {enc : α → List UInt8} {W W' : World}
/-- a list of plain things. -/
theorem pfx_hd {x y : Hd α} {s s' : List UInt8} (h : Pfx enc id (fun a => r.ok W a ∨ r.ok W' a)) (hx : x.ok r W) (hy : y.ok r W') (e : lst enc x.l ++ s = lst enc y.l ++ s') : x.l = y.l ∧ s = s' :=
  pfx_lstI h hx.1.len hy.1.len (fun a ha => .inl (hx.2 a ha)) (fun a ha => .inr (hy.2 a ha)) e
theorem pfx_hdI {x y : Hd Int} {s s' : List UInt8} (hx : x.okI W) (hy : y.okI W') (e : lst vint x.l ++ s = lst vint y.l ++ s') : x.l = y.l ∧ s = s' :=
  pfx_lstI pfx_int hx.1.len_le hy.1.len_le hx.2.2 hy.2.2 e
end
theorem pfx_Pt (W : World) : Pfx encPt bPt (rdPt.ok W) := by
  rintro x y r r' ⟨h1, h2, h3, h4, h5, h6, h7, h8, h9, h10, h11⟩ ⟨k1, k2, k3, k4, k5, k6, k7, k8, k9, k10, k11⟩ e
  simp only [encPt, intsB_cons, intsB_nil, List.append_assoc, List.nil_append] at e
  obtain ⟨e1, e⟩ := pfx_lstI (pfx_Rg W) h1.1.len k1.1.len h1.2 k1.2 e
  obtain ⟨e2, e⟩ := pfx_lstI (pfx_Pc W) h2.1.len k2.1.len h2.2 k2.2 e
  obtain ⟨e3, e⟩ := pfx_lstI (pfx_Po W) h3.1.len k3.1.len h3.2 k3.2 e
  obtain ⟨e4, e⟩ := pfx_lstI (pfx_Sm W) h4.1.len k4.1.len h4.2 k4.2 e
  obtain ⟨e5, e⟩ := pfx_int _ _ _ _ h5 k5 e
  obtain ⟨e6, e⟩ := pfx_lstI (pfx_Pl W) h6.1.len k6.1.len h6.2 k6.2 e
  obtain ⟨e7, e⟩ := pfx_hdI h7 k7 e
  obtain ⟨e8, e⟩ := pfx_int _ _ _ _ h8 k8 e
  obtain ⟨e9, e⟩ := pfx_int _ _ _ _ h9 k9 e
  obtain ⟨e10, e⟩ := pfx_int _ _ _ _ h10 k10 e
  obtain ⟨e11, e⟩ := pfx_hdI h11 k11 e
  refine ⟨?_, e⟩
  unfold bPt
  rw [bH_eq.2 e1, bH_eq.2 e2, bH_eq.2 e3, bH_eq.2 e4, bH_eq.2 e6, bH_eq.2 e7, bH_eq.2 e11, show x.flags = y.flags from e5, show x.cap = y.cap from e8, show x.bud = y.bud from e9, show x.lad = y.lad from e10]
theorem pfx_Md (W : World) : Pfx encMd bMd (rdMd.ok W) := by
  rintro x y r r' ⟨h1, h2⟩ ⟨k1, k2⟩ e
  simp only [encMd, List.append_assoc] at e
  obtain ⟨e1, e⟩ := pfx_int _ _ _ _ h1 k1 e
  obtain ⟨e2, e⟩ := pfx_lstI (pfx_Wn W) h2.1.len k2.1.len h2.2 k2.2 e
  refine ⟨?_, e⟩
  unfold bMd
  rw [bH_eq.2 e2, show x.frame = y.frame from e1]
theorem pfx_Pw (W : World) : Pfx encPw bPw (rdPw.ok W) := by
  rintro x y r r' ⟨h1, h2, h3, h4, h5, h6, h7, h8⟩ ⟨k1, k2, k3, k4, k5, k6, k7, k8⟩ e
  simp only [encPw, intsB_cons, intsB_nil, List.append_assoc, List.nil_append] at e
  obtain ⟨e1, e⟩ := pfx_lstI (pfx_Lv W) h1.1.len k1.1.len h1.2 k1.2 e
  obtain ⟨e2, e⟩ := pfx_lstI (pfx_Np W) h2.1.len k2.1.len h2.2 k2.2 e
  obtain ⟨e3, e⟩ := pfx_int _ _ _ _ h3 k3 e
  obtain ⟨e4, e⟩ := pfx_int _ _ _ _ h4 k4 e
  obtain ⟨e5, e⟩ := pfx_int _ _ _ _ h5 k5 e
  obtain ⟨e6, e⟩ := pfx_int _ _ _ _ h6 k6 e
  obtain ⟨e7, e⟩ := pfx_int _ _ _ _ h7 k7 e
  obtain ⟨e8, e⟩ := pfx_int _ _ _ _ h8 k8 e
  refine ⟨?_, e⟩
  unfold bPw
  rw [bH_eq.2 e1, bH_eq.2 e2, show x.sw = y.sw from e3, show x.idle = y.idle from e4, show x.change = y.change from e5, show x.quant = y.quant from e6, show x.slow = y.slow from e7, show x.ppm = y.ppm from e8]
theorem encCf_inj {W : World} {x y : Cf} (hx : rdCf.ok W x) (hy : rdCf.ok W y) (h : encCf x = encCf y) : bCf x = bCf y := by
  obtain ⟨h1, h2, h3, h4, h5, h6⟩ := hx
  obtain ⟨k1, k2, k3, k4, k5, k6⟩ := hy
  have e : encCf x ++ [] = encCf y ++ [] := by rw [h]
  simp only [encCf, List.append_assoc] at e
  obtain ⟨e1, e⟩ := pfx_lst (pfx_Pt W) h1.1.len k1.1.len h1.2 k1.2 e
  obtain ⟨e2, e⟩ := pfx_lstI (pfx_Ch W) h2.1.len k2.1.len h2.2 k2.2 e
  obtain ⟨e3, e⟩ := pfx_lst (pfx_Md W) h3.1.len k3.1.len h3.2 k3.2 e
  obtain ⟨e4, e⟩ := pfx_Pw W _ _ _ _ h4 k4 e
  obtain ⟨e5, e⟩ := pfx_hdI h5 k5 e
  obtain ⟨e6, e⟩ := pfx_hdI h6 k6 e
  unfold bCf
  rw [bHm_eq.2 e1, bH_eq.2 e2, bHm_eq.2 e3, e4, bH_eq.2 e5, bH_eq.2 e6]
theorem lst_map {α : Type} {enc : α → List UInt8} {f : α → α} (h : ∀ x, enc (f x) = enc x) (l : List α) : lst enc (l.map f) = lst enc l := by
  unfold lst
  rw [List.length_map]
  congr 1
  induction l with
  | nil => rfl
  | cons x l ih => rw [List.map_cons, List.flatMap_cons, List.flatMap_cons, h, ih]
theorem encCf_bare (x : Cf) : encCf (bCf x) = encCf x := by
  unfold encCf
  rw [show (bCf x).parts.l = x.parts.l.map bPt from rfl, show (bCf x).modes.l = x.modes.l.map bMd from rfl, lst_map (enc := encPt) (f := bPt) (fun _ => rfl), lst_map (enc := encMd) (f := bMd) (fun _ => rfl)]
  rfl
theorem encCf_iff {W : World} {x y : Cf} (hx : rdCf.ok W x) (hy : rdCf.ok W y) : encCf x = encCf y ↔ bCf x = bCf y :=
  ⟨encCf_inj hx hy, fun h => by rw [← encCf_bare x, ← encCf_bare y, h]⟩
/-! ### What is written is read. -/
theorem badL_ok {α : Type} {bad : α → Bool} {l : List α} (h : badL bad l = false) : l.length ≤ 64 ∧ ∀ x ∈ l, bad x = false := by
  unfold badL at h
  rw [Bool.or_eq_false_iff] at h
  refine ⟨by simpa using h.1, fun x hx => ?_⟩
  have := List.any_eq_false.1 h.2 x hx
  simpa using this
theorem kI_vint {n : Int} (h : i64 n) (s : List UInt8) : kI ⟨vint n ++ s, 0⟩ = ⟨s, 0⟩ := by
  unfold kI
  rw [gInt_vint h]
theorem kB_vbool (b : Bool) (s : List UInt8) : kB ⟨vbool b ++ s, 0⟩ = ⟨s, 0⟩ := by
  unfold kB
  rw [gBool_vb]
def Acc {α : Type} (k : RS → RS) (enc : α → List UInt8) (rng : α → Prop) (bad : α → Bool) : Prop := ∀ x s, rng x → bad x = false → k ⟨enc x ++ s, 0⟩ = ⟨s, 0⟩
section
variable {α : Type} {k : RS → RS} {enc : α → List UInt8} {rng : α → Prop} {bad : α → Bool}
theorem acc_rep (h : Acc k enc rng bad) : ∀ (l : List α) (s : List UInt8), (∀ x ∈ l, rng x) → (∀ x ∈ l, bad x = false) → kRep k l.length ⟨l.flatMap enc ++ s, 0⟩ = ⟨s, 0⟩
  | [], s, _, _ => rfl
  | x :: l, s, hx, hb => by
    rw [List.length_cons, kRep_more rfl, List.flatMap_cons, List.append_assoc, h x _ (hx x (by simp)) (hb x (by simp))]
    exact acc_rep h l s (fun z hz => hx z (by simp [hz])) (fun z hz => hb z (by simp [hz]))
theorem acc_lst (h : Acc k enc rng bad) {l : List α} (hr : ∀ x ∈ l, rng x) (hb : badL bad l = false) (s : List UInt8) : kL k ⟨lst enc l ++ s, 0⟩ = ⟨s, 0⟩ := by
  obtain ⟨h64, hb⟩ := badL_ok hb
  have h1 : gInt ⟨lst enc l ++ s, 0⟩ = ((l.length : Int), ⟨l.flatMap enc ++ s, 0⟩) := by
    unfold lst
    rw [List.append_assoc]
    exact gInt_vint (by unfold i64; omega) _
  unfold kL kHead
  rw [h1, if_neg (by simp only; omega)]
  simp only [Int.toNat_natCast]
  exact acc_rep h l s hr hb
end
theorem acc_Int : Acc kI vint i64 noB := fun _ s h _ => kI_vint h s
theorem acc_Rg (W : World) : Acc kRg encRg (rdRg.ok W) noB := fun x s h _ => by
  simp only [encRg, kRg, intsB_cons, intsB_nil, List.append_assoc, List.nil_append]
  rw [kI_vint h.1, kI_vint h.2.1, kB_vbool]
theorem acc_Po (W : World) : Acc kPo encPo (rdPo.ok W) noB := fun x s h _ => by
  simp only [encPo, kPo, intsB_cons, intsB_nil, List.append_assoc, List.nil_append]
  rw [kB_vbool, kB_vbool, kI_vint h.2.2.1, kI_vint h.2.2.2]
theorem acc_Pc (W : World) : Acc k3 encPc (rdPc.ok W) noB := fun x s h _ => by
  simp only [encPc, k3, intsB_cons, intsB_nil, List.append_assoc, List.nil_append]
  rw [kI_vint h.1, kI_vint h.2.1, kI_vint h.2.2]
theorem acc_Wn (W : World) : Acc k3 encWn (rdWn.ok W) noB := fun x s h _ => by
  simp only [encWn, k3, intsB_cons, intsB_nil, List.append_assoc, List.nil_append]
  rw [kI_vint h.1, kI_vint h.2.1, kI_vint h.2.2]
theorem acc_Np (W : World) : Acc k3 encNp (rdNp.ok W) noB := fun x s h _ => by
  simp only [encNp, k3, intsB_cons, intsB_nil, List.append_assoc, List.nil_append]
  rw [kI_vint h.1, kI_vint h.2.1, kI_vint h.2.2]
theorem acc_Sm (W : World) : Acc k2 encSm (rdSm.ok W) noB := fun x s h _ => by
  simp only [encSm, k2, intsB_cons, intsB_nil, List.append_assoc, List.nil_append]
  rw [kI_vint h.1, kI_vint h.2]
theorem acc_Pl (W : World) : Acc k2 encPl (rdPl.ok W) noB := fun x s h _ => by
  simp only [encPl, k2, intsB_cons, intsB_nil, List.append_assoc, List.nil_append]
  rw [kI_vint h.1, kI_vint h.2]
theorem acc_Lv (W : World) : Acc k2 encLv (rdLv.ok W) noB := fun x s h _ => by
  simp only [encLv, k2, intsB_cons, intsB_nil, List.append_assoc, List.nil_append]
  rw [kI_vint h.1, kI_vint h.2]
theorem acc_Ch (W : World) : Acc k4 encCh (rdCh.ok W) noB := fun x s h _ => by
  simp only [encCh, k4, intsB_cons, intsB_nil, List.append_assoc, List.nil_append]
  rw [kI_vint h.1.1, kI_vint h.1.2, kI_vint h.2.1, kI_vint h.2.2]
theorem acc_Md (W : World) : Acc kMd encMd (rdMd.ok W) badMd := fun x s h hb => by
  unfold badMd at hb
  simp only [encMd, kMd, List.append_assoc]
  rw [kI_vint h.1, acc_lst (acc_Wn W) h.2.2 hb]
theorem acc_Pw (W : World) : Acc kPw encPw (rdPw.ok W) badPw := fun x s h hb => by
  unfold badPw at hb
  rw [Bool.or_eq_false_iff] at hb
  obtain ⟨h1, h2, h3, h4, h5, h6, h7, h8⟩ := h
  simp only [encPw, kPw, k3, intsB_cons, intsB_nil, List.append_assoc, List.nil_append]
  rw [acc_lst (acc_Lv W) h1.2 hb.1, acc_lst (acc_Np W) h2.2 hb.2, kI_vint h3, kI_vint h4, kI_vint h5, kI_vint h6, kI_vint h7, kI_vint h8]
theorem acc_Pt (W : World) : Acc kPt encPt (rdPt.ok W) badPt := fun x s h hb => by
  unfold badPt at hb
  simp only [Bool.or_eq_false_iff] at hb
  obtain ⟨⟨⟨⟨⟨⟨b1, b2⟩, b3⟩, b4⟩, b5⟩, b6⟩, b7⟩ := hb
  obtain ⟨h1, h2, h3, h4, h5, h6, h7, h8, h9, h10, h11⟩ := h
  have e3 : ∀ s, k3 s = kI (kI (kI s)) := fun _ => rfl
  simp only [encPt, kPt, intsB_cons, intsB_nil, List.append_assoc, List.nil_append]
  rw [acc_lst (acc_Rg W) h1.2 b1, acc_lst (acc_Pc W) h2.2 b2, acc_lst (acc_Po W) h3.2 b3, acc_lst (acc_Sm W) h4.2 b4, kI_vint h5, acc_lst (acc_Pl W) h6.2 b5, acc_lst acc_Int h7.2.2 b6, e3, kI_vint h8, kI_vint h9, kI_vint h10, acc_lst acc_Int h11.2.2 b7]
theorem decE_enc {W : World} {x : Cf} (hx : rdCf.ok W x) (hb : badCf x = false) : decE (encCf x) = 0 := by
  unfold badCf at hb
  simp only [Bool.or_eq_false_iff] at hb
  obtain ⟨⟨⟨⟨⟨b1, b2⟩, b3⟩, b4⟩, b5⟩, b6⟩ := hb
  obtain ⟨h1, h2, h3, h4, h5, h6⟩ := hx
  have e : encCf x = encCf x ++ [] := (List.append_nil _).symm
  have : kCf ⟨encCf x, 0⟩ = ⟨[], 0⟩ := by
    rw [e]
    simp only [encCf, kCf, List.append_assoc]
    rw [acc_lst (acc_Pt W) h1.2 b1, acc_lst (acc_Ch W) h2.2 b2, acc_lst (acc_Md W) h3.2 b3, acc_Pw W _ _ h4 b4, acc_lst acc_Int h5.2.2 b5, acc_lst acc_Int h6.2.2 b6]
  unfold decE
  rw [this]
  rfl
theorem short_ok {x : Cf} (hb : badCf x = false) : x.short := by
  unfold badCf at hb
  simp only [Bool.or_eq_false_iff] at hb
  obtain ⟨⟨⟨⟨⟨b1, b2⟩, b3⟩, b4⟩, b5⟩, b6⟩ := hb
  unfold badPw at b4
  rw [Bool.or_eq_false_iff] at b4
  have c1 := badL_ok b1
  have c2 := badL_ok b2
  have c3 := badL_ok b3
  have c4 := badL_ok b4.1
  have c4' := badL_ok b4.2
  have c5 := badL_ok b5
  have c6 := badL_ok b6
  refine ⟨⟨by omega, by omega, by omega, by omega, by omega, by omega, by omega⟩, fun p hp => ?_, fun m hm => ?_⟩
  · have := c1.2 p hp
    unfold badPt at this
    simp only [Bool.or_eq_false_iff] at this
    obtain ⟨⟨⟨⟨⟨⟨d1, d2⟩, d3⟩, d4⟩, d5⟩, d6⟩, d7⟩ := this
    have f1 := badL_ok d1
    have f2 := badL_ok d2
    have f3 := badL_ok d3
    have f4 := badL_ok d4
    have f5 := badL_ok d5
    have f6 := badL_ok d6
    have f7 := badL_ok d7
    exact ⟨by omega, by omega, by omega, by omega, by omega, by omega, by omega⟩
  · have := c3.2 m hm
    unfold badMd at this
    have f1 := badL_ok this
    omega
theorem cf0_enc : encCf Cf0 = [0, 0, 0, 0, 0, 0, 0, 0, 0, 0, 0, 0, 0] := by decide
theorem cf0_bad : encBad Cf0 = false := by
  unfold encBad
  rw [cf0_enc]
  decide
end Go.Proofs.YtahjnonkhbpnpaaGreat
/- The document's Same. -/
namespace Go.Proofs.YtahjnonkhbpnpaaGreat
open Go.RowKit
theorem bytes_str {w : World} {A : Option Addr} {n c : Nat} {l : List UInt8} (h : SlB w A n c l) : (convert 36 9 (.slice A n c)).run Tryz.prog w = .ok (.string ⟨l.toArray⟩) w :=
  run_bytes_str 36 9 5 (by kernel_rfl) (by kernel_rfl) (by kernel_rfl) h
theorem list_beq (l l' : List UInt8) : (l == l') = decide (l = l') := by
  by_cases h : l = l'
  · subst h; simp
  · rw [decide_eq_false h]; simpa using h
def sameD (x y : Cf) : Bool := !encBad x && !encBad y && decide (encCf x = encCf y)
theorem encOut_len (x : Cf) : (encOut x).length ≤ 65536 := by
  unfold encOut encBad
  split
  · simp
  · rename_i h
    simp at h
    exact h.2
set_option maxRecDepth 100000 in
set_option maxHeartbeats 3200000 in
theorem refSame_any {w : World} {x y : Cf} (hx : rdCf.ok w x) (hy : rdCf.ok w y) (sx : x.short) (sy : y.short) :
    Calls Tryz.prog 13 #[x.v, y.v] w fun e w' => e = .returned (.bool (sameD x y)) ∧ Below w.heap.size w w' := by
  have hb1 := (Below.refl w.heap.size w).alloc (Nat.le_refl _) (.cells #[.slice x.parts.A x.parts.l.length x.parts.c, .slice x.chans.A x.chans.l.length x.chans.c, .slice x.modes.A x.modes.l.length x.modes.c, .slice x.pw.levels.A x.pw.levels.l.length x.pw.levels.c, .slice x.pw.naps.A x.pw.naps.l.length x.pw.naps.c, .int .i64 x.pw.sw, .int .i64 x.pw.idle, .int .i64 x.pw.change, .int .i64 x.pw.quant, .int .i64 x.pw.slow, .int .i64 x.pw.ppm, .slice x.shed.down.A x.shed.down.l.length x.shed.down.c, .slice x.shed.up.A x.shed.up.l.length x.shed.up.c] 33)
  have hb2 := hb1.alloc hb1.size (.cells #[.slice y.parts.A y.parts.l.length y.parts.c, .slice y.chans.A y.chans.l.length y.chans.c, .slice y.modes.A y.modes.l.length y.modes.c, .slice y.pw.levels.A y.pw.levels.l.length y.pw.levels.c, .slice y.pw.naps.A y.pw.naps.l.length y.pw.naps.c, .int .i64 y.pw.sw, .int .i64 y.pw.idle, .int .i64 y.pw.change, .int .i64 y.pw.quant, .int .i64 y.pw.slow, .int .i64 y.pw.ppm, .slice y.shed.down.A y.shed.down.l.length y.shed.down.c, .slice y.shed.up.A y.shed.up.l.length y.shed.up.c] 33)
  have k1 := (Blk.new w 33 #[.slice x.parts.A x.parts.l.length x.parts.c, .slice x.chans.A x.chans.l.length x.chans.c, .slice x.modes.A x.modes.l.length x.modes.c, .slice x.pw.levels.A x.pw.levels.l.length x.pw.levels.c, .slice x.pw.naps.A x.pw.naps.l.length x.pw.naps.c, .int .i64 x.pw.sw, .int .i64 x.pw.idle, .int .i64 x.pw.change, .int .i64 x.pw.quant, .int .i64 x.pw.slow, .int .i64 x.pw.ppm, .slice x.shed.down.A x.shed.down.l.length x.shed.down.c, .slice x.shed.up.A x.shed.up.l.length x.shed.up.c]).alloc (.cells #[.slice y.parts.A y.parts.l.length y.parts.c, .slice y.chans.A y.chans.l.length y.chans.c, .slice y.modes.A y.modes.l.length y.modes.c, .slice y.pw.levels.A y.pw.levels.l.length y.pw.levels.c, .slice y.pw.naps.A y.pw.naps.l.length y.pw.naps.c, .int .i64 y.pw.sw, .int .i64 y.pw.idle, .int .i64 y.pw.change, .int .i64 y.pw.quant, .int .i64 y.pw.slow, .int .i64 y.pw.ppm, .slice y.shed.down.A y.shed.down.l.length y.shed.down.c, .slice y.shed.up.A y.shed.up.l.length y.shed.up.c] 33)
  have k2 := Blk.new (w.alloc (.cells #[.slice x.parts.A x.parts.l.length x.parts.c, .slice x.chans.A x.chans.l.length x.chans.c, .slice x.modes.A x.modes.l.length x.modes.c, .slice x.pw.levels.A x.pw.levels.l.length x.pw.levels.c, .slice x.pw.naps.A x.pw.naps.l.length x.pw.naps.c, .int .i64 x.pw.sw, .int .i64 x.pw.idle, .int .i64 x.pw.change, .int .i64 x.pw.quant, .int .i64 x.pw.slow, .int .i64 x.pw.ppm, .slice x.shed.down.A x.shed.down.l.length x.shed.down.c, .slice x.shed.up.A x.shed.up.l.length x.shed.up.c] 33)) 33 #[.slice y.parts.A y.parts.l.length y.parts.c, .slice y.chans.A y.chans.l.length y.chans.c, .slice y.modes.A y.modes.l.length y.modes.c, .slice y.pw.levels.A y.pw.levels.l.length y.pw.levels.c, .slice y.pw.naps.A y.pw.naps.l.length y.pw.naps.c, .int .i64 y.pw.sw, .int .i64 y.pw.idle, .int .i64 y.pw.change, .int .i64 y.pw.quant, .int .i64 y.pw.slow, .int .i64 y.pw.ppm, .slice y.shed.down.A y.shed.down.l.length y.shed.down.c, .slice y.shed.up.A y.shed.up.l.length y.shed.up.c]
  rw [World.size_alloc] at k2
  simp only [Cf.v]
  go_enter Tryz.func13, Tryz.ntmps13
  go_upto_region 1 with fail
  generalize (w.alloc (.cells #[.slice x.parts.A x.parts.l.length x.parts.c, .slice x.chans.A x.chans.l.length x.chans.c, .slice x.modes.A x.modes.l.length x.modes.c, .slice x.pw.levels.A x.pw.levels.l.length x.pw.levels.c, .slice x.pw.naps.A x.pw.naps.l.length x.pw.naps.c, .int .i64 x.pw.sw, .int .i64 x.pw.idle, .int .i64 x.pw.change, .int .i64 x.pw.quant, .int .i64 x.pw.slow, .int .i64 x.pw.ppm, .slice x.shed.down.A x.shed.down.l.length x.shed.down.c, .slice x.shed.up.A x.shed.up.l.length x.shed.up.c] 33)).alloc (.cells #[.slice y.parts.A y.parts.l.length y.parts.c, .slice y.chans.A y.chans.l.length y.chans.c, .slice y.modes.A y.modes.l.length y.modes.c, .slice y.pw.levels.A y.pw.levels.l.length y.pw.levels.c, .slice y.pw.naps.A y.pw.naps.l.length y.pw.naps.c, .int .i64 y.pw.sw, .int .i64 y.pw.idle, .int .i64 y.pw.change, .int .i64 y.pw.quant, .int .i64 y.pw.slow, .int .i64 y.pw.ppm, .slice y.shed.down.A y.shed.down.l.length y.shed.down.c, .slice y.shed.up.A y.shed.up.l.length y.shed.up.c] 33) = w1 at hb2 k1 k2 ⊢
  obtain ⟨gx, hgx⟩ : ∃ gx, gx = w.heap.size := ⟨_, rfl⟩
  rw [← hgx] at k1 k2 ⊢
  obtain ⟨gy, hgy⟩ : ∃ gy, gy = gx + 1 := ⟨_, rfl⟩
  rw [← hgy] at k2 ⊢
  clear hgx hgy hb1
  have lx := k1.lt
  have c0 : w1.cell? ⟨gx, 0, none⟩ = some (.slice x.parts.A x.parts.l.length x.parts.c) := k1.cell 0
  have c1 : w1.cell? ⟨gx, 1, none⟩ = some (.slice x.chans.A x.chans.l.length x.chans.c) := k1.cell 1
  have c2 : w1.cell? ⟨gx, 2, none⟩ = some (.slice x.modes.A x.modes.l.length x.modes.c) := k1.cell 2
  have c3 : w1.cell? ⟨gx, 3, none⟩ = some (.slice x.pw.levels.A x.pw.levels.l.length x.pw.levels.c) := k1.cell 3
  have c4 : w1.cell? ⟨gx, 4, none⟩ = some (.slice x.pw.naps.A x.pw.naps.l.length x.pw.naps.c) := k1.cell 4
  have c5 : w1.cell? ⟨gx, 5, none⟩ = some (.int .i64 x.pw.sw) := k1.cell 5
  have c6 : w1.cell? ⟨gx, 6, none⟩ = some (.int .i64 x.pw.idle) := k1.cell 6
  have c7 : w1.cell? ⟨gx, 7, none⟩ = some (.int .i64 x.pw.change) := k1.cell 7
  have c8 : w1.cell? ⟨gx, 8, none⟩ = some (.int .i64 x.pw.quant) := k1.cell 8
  have c9 : w1.cell? ⟨gx, 9, none⟩ = some (.int .i64 x.pw.slow) := k1.cell 9
  have c10 : w1.cell? ⟨gx, 10, none⟩ = some (.int .i64 x.pw.ppm) := k1.cell 10
  have c11 : w1.cell? ⟨gx, 11, none⟩ = some (.slice x.shed.down.A x.shed.down.l.length x.shed.down.c) := k1.cell 11
  have c12 : w1.cell? ⟨gx, 12, none⟩ = some (.slice x.shed.up.A x.shed.up.l.length x.shed.up.c) := k1.cell 12
  go_wp2_with fail
  refine (refEncode_any x (rdCf.keep hx hb2) sx).mono ?_
  rintro e w2 ⟨v, z, rfl, hz, hown, hbl⟩
  have HZ := Lib.hid hz
  have k22 := k2.keep hbl
  have hB2 := hb2.trans (hbl.mono hb2.size)
  clear hz lx c0 c1 c2 c3 c4 c5 c6 c7 c8 c9 c10 c11 c12 k1 k2
  have ly := k22.lt
  have d0 : w2.cell? ⟨gy, 0, none⟩ = some (.slice y.parts.A y.parts.l.length y.parts.c) := k22.cell 0
  have d1 : w2.cell? ⟨gy, 1, none⟩ = some (.slice y.chans.A y.chans.l.length y.chans.c) := k22.cell 1
  have d2 : w2.cell? ⟨gy, 2, none⟩ = some (.slice y.modes.A y.modes.l.length y.modes.c) := k22.cell 2
  have d3 : w2.cell? ⟨gy, 3, none⟩ = some (.slice y.pw.levels.A y.pw.levels.l.length y.pw.levels.c) := k22.cell 3
  have d4 : w2.cell? ⟨gy, 4, none⟩ = some (.slice y.pw.naps.A y.pw.naps.l.length y.pw.naps.c) := k22.cell 4
  have d5 : w2.cell? ⟨gy, 5, none⟩ = some (.int .i64 y.pw.sw) := k22.cell 5
  have d6 : w2.cell? ⟨gy, 6, none⟩ = some (.int .i64 y.pw.idle) := k22.cell 6
  have d7 : w2.cell? ⟨gy, 7, none⟩ = some (.int .i64 y.pw.change) := k22.cell 7
  have d8 : w2.cell? ⟨gy, 8, none⟩ = some (.int .i64 y.pw.quant) := k22.cell 8
  have d9 : w2.cell? ⟨gy, 9, none⟩ = some (.int .i64 y.pw.slow) := k22.cell 9
  have d10 : w2.cell? ⟨gy, 10, none⟩ = some (.int .i64 y.pw.ppm) := k22.cell 10
  have d11 : w2.cell? ⟨gy, 11, none⟩ = some (.slice y.shed.down.A y.shed.down.l.length y.shed.down.c) := k22.cell 11
  have d12 : w2.cell? ⟨gy, 12, none⟩ = some (.slice y.shed.up.A y.shed.up.l.length y.shed.up.c) := k22.cell 12
  go_wp2_with fail
  refine (refEncode_any y (rdCf.keep hy hB2) sy).mono ?_
  rintro e w3 ⟨v', z', rfl, hz', hown', hbl'⟩
  have HZ' := Lib.hid hz'
  have hB3 := hB2.trans (hbl'.mono hB2.size)
  obtain ⟨A, c, rfl, hs, -⟩ := SlB.of_own (own_below hown hbl')
  obtain ⟨A', c', rfl, hs', -⟩ := SlB.of_own hown'
  clear hz' ly d0 d1 d2 d3 d4 d5 d6 d7 d8 d9 d10 d11 d12 k22 hown hown' hbl hbl'
  have hc1 := bytes_str hs
  have hc2 := bytes_str hs'
  have HQ := Lib.hid (list_beq (encOut x) (encOut y))
  cases hbx : encBad x with
  | true =>
    have hzz : z = 3 := by rw [HZ.out, hbx]; rfl
    have HD : Hid (sameD x y = false) := by unfold Hid sameD; rw [hbx]; rfl
    subst hzz
    clear HZ HZ' hbx HQ
    go_wp2_with fail
    go_ret
    exact ⟨by rw [HD.out]; rfl, hB3⟩
  | false =>
    have hzz : z = 0 := by rw [HZ.out, hbx]; rfl
    subst hzz
    cases hby : encBad y with
    | true =>
      have hzz : z' = 3 := by rw [HZ'.out, hby]; rfl
      have HD : Hid (sameD x y = false) := by unfold Hid sameD; rw [hby]; simp
      subst hzz
      clear HZ HZ' hbx hby HQ
      go_wp2_with fail
      go_ret
      exact ⟨by rw [HD.out]; rfl, hB3⟩
    | false =>
      have hzz : z' = 0 := by rw [HZ'.out, hby]; rfl
      subst hzz
      have HD : Hid (sameD x y = decide (encOut x = encOut y)) := by unfold Hid sameD encOut; rw [hbx, hby]; rfl
      clear HZ HZ' hbx hby
      have hq := HQ.out
      generalize encOut x = l at hc1 hs hq HD
      generalize encOut y = l' at hc2 hs' hq HD
      rw [← HD.out] at hq
      clear HD HQ
      go_wp2_with fail
      go_ret
      exact ⟨rfl, hB3⟩
end Go.Proofs.YtahjnonkhbpnpaaGreat
