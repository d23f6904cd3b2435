/- The walks of package mem: the state, the closure of 'of', IndexFunc, find, of. -/
import Derived.Test.YtpgglefimdllbaaMemHas
namespace Go.Proofs.Ytpgglefimdllbaa
open Go.RowKit
def ptC (x : Nat × Nat) : List Value := [.pointer (some ⟨x.1, 0, none⟩)]
def RgAt (w : World) (s : Sg) (x : Nat × Nat) (l : List UInt8) : Prop :=
  Blk w x.1 62 #[.int .i64 s.ba, .int .i64 s.sz, .bool s.wr, .slice (some ⟨x.2, 0, none⟩) l.length l.length] ∧ Blk w x.2 5 (l.map bv).toArray ∧ l.length ≤ 256
def lnB (Bs : List (List UInt8)) (i : Nat) : Nat := (atD [] Bs i).length
/-- the first region that has the bytes -/
def fdF (Ss : List Sg) (Bs : List (List UInt8)) (a n : Int) (wr : Bool) : Option Nat := (List.range Ss.length).find? fun j => ofB (atD sg0 Ss j) (lnB Bs j) a n wr
theorem fdF_some {Ss : List Sg} {Bs : List (List UInt8)} {a n : Int} {wr : Bool} {k : Nat} (hk : k < Ss.length) (h : ofB (atD sg0 Ss k) (lnB Bs k) a n wr = true) (hno : ∀ j, j < k → ofB (atD sg0 Ss j) (lnB Bs j) a n wr = false) : fdF Ss Bs a n wr = some k := by
  unfold fdF
  rw [List.find?_range_eq_some]
  exact ⟨h, by simpa using hk, fun j hj => by rw [hno j hj]; rfl⟩
theorem fdF_none {Ss : List Sg} {Bs : List (List UInt8)} {a n : Int} {wr : Bool} (hno : ∀ j, j < Ss.length → ofB (atD sg0 Ss j) (lnB Bs j) a n wr = false) : fdF Ss Bs a n wr = none := by
  unfold fdF
  rw [List.find?_eq_none]
  intro j hj
  rw [hno j (by simpa using hj)]
  exact Bool.false_ne_true
theorem fdF_at {Ss : List Sg} {Bs : List (List UInt8)} {a n : Int} {wr : Bool} {k : Nat} (h : fdF Ss Bs a n wr = some k) : k < Ss.length ∧ ofB (atD sg0 Ss k) (lnB Bs k) a n wr = true := by
  unfold fdF at h
  rw [List.find?_range_eq_some] at h
  exact ⟨by simpa using h.2.1, h.1⟩
def fnV (x1 x2 x3 : Nat) : Value := .func (.func 28) #[] #[.pointer (some ⟨x1, 0, none⟩), .pointer (some ⟨x2, 0, none⟩), .pointer (some ⟨x3, 0, none⟩)]
set_option maxRecDepth 100000 in
theorem of1_any {w : World} {s : Sg} {x : Nat × Nat} {l : List UInt8} (h : RgAt w s x l) (hs : s.ok) {x1 x2 x3 : Nat} {a n : Int} {wr : Bool} (ha : i64 a) (hn : i64 n)
    (c1 : w.cell? ⟨x1, 0, none⟩ = some (.int .i64 a)) (c2 : w.cell? ⟨x2, 0, none⟩ = some (.int .i64 n)) (c3 : w.cell? ⟨x3, 0, none⟩ = some (.bool wr)) :
    Calls Try.prog 28 #[.pointer (some ⟨x.1, 0, none⟩), .pointer (some ⟨x1, 0, none⟩), .pointer (some ⟨x2, 0, none⟩), .pointer (some ⟨x3, 0, none⟩)] w fun e w' => e = .returned (.bool (ofB s l.length a n wr)) ∧ ∃ k, w' = w.drewN k := by
  obtain ⟨h1, h2, h3⟩ := h
  have HO : Hid (ofB s l.length a n wr = (hasB s l.length a n && (s.wr || !wr))) := rfl
  generalize ofB s l.length a n wr = R at HO ⊢
  go_enter Try.func28, Try.ntmps28
  go_wp2_with fail
  refine (has_any h1 hs (by omega) ha hn).mono ?_
  rintro e w2 ⟨rfl, k, rfl⟩
  have q2 : w.cell? ⟨x.1, 2, none⟩ = some (.bool s.wr) := h1.cell 2
  generalize hasB s l.length a n = hh at HO ⊢
  generalize s.wr = sw at HO q2
  cases hh
  · have HR : Hid (R = false) := HO
    clear HO
    go_wp2_with fail
    go_ret
    exact ⟨by rw [HR.out]; rfl, _, rfl⟩
  · cases sw
    · cases wr
      · have HR : Hid (R = true) := HO
        clear HO
        go_wp2_with fail
        go_ret
        exact ⟨by rw [HR.out]; rfl, _, rfl⟩
      · have HR : Hid (R = false) := HO
        clear HO
        go_wp2_with fail
        go_ret
        exact ⟨by rw [HR.out]; rfl, _, rfl⟩
    · have HR : Hid (R = true) := HO
      clear HO
      go_wp2_with fail
      go_ret
      exact ⟨by rw [HR.out]; rfl, _, rfl⟩
/-- a memory at block g; what it has lies in blocks from B on. -/
def MemX (w : World) (g B : Nat) (A : Option Addr) (c : Nat) (PQ : List (Nat × Nat)) (Ss : List Sg) (Bs : List (List UInt8)) : Prop := Blk w g 56 #[.slice A Ss.length c, .bool true] ∧ SlG w A Ss.length c 1 ptC PQ ∧ Bs.length = Ss.length ∧ B ≤ g ∧ B ≤ w.heap.size ∧ Ss.length ≤ 4 ∧ (∀ s ∈ Ss, s.ok) ∧
  (∀ i, i < Ss.length → RgAt w (atD sg0 Ss i) (atD (0, 0) PQ i) (atD [] Bs i)) ∧
  (∀ i, i < Ss.length → B ≤ (atD (0, 0) PQ i).2 ∧ (atD (0, 0) PQ i).2 ≠ g ∧ (∀ b o, A = some ⟨b, o, none⟩ → (atD (0, 0) PQ i).2 ≠ b) ∧ ∀ j, j < Ss.length → (atD (0, 0) PQ i).2 ≠ (atD (0, 0) PQ j).1 ∧ (i ≠ j → (atD (0, 0) PQ i).2 ≠ (atD (0, 0) PQ j).2))
def MemSt (w : World) (g B : Nat) (Ss : List Sg) (Bs : List (List UInt8)) : Prop := ∃ A c PQ, MemX w g B A c PQ Ss Bs
theorem sg_ok {Ss : List Sg} (h : ∀ s ∈ Ss, s.ok) {i : Nat} (hi : i < Ss.length) : (atD sg0 Ss i).ok := by
  have : atD sg0 Ss i = Ss[i] := atD_lt hi
  rw [this]
  exact h _ (List.getElem_mem hi)
theorem RgAt.keep {w w' : World} {s : Sg} {x : Nat × Nat} {l : List UInt8} (h : RgAt w s x l) (hb : Below w.heap.size w w') : RgAt w' s x l := ⟨h.1.keep hb, h.2.1.keep hb, h.2.2⟩
theorem MemX.keep {w w' : World} {g B : Nat} {A : Option Addr} {c : Nat} {PQ : List (Nat × Nat)} {Ss : List Sg} {Bs : List (List UInt8)} (h : MemX w g B A c PQ Ss Bs) (hb : Below w.heap.size w w') : MemX w' g B A c PQ Ss Bs := by
  obtain ⟨h1, h2, h3, h4, h5, h6, h7, h8, h9⟩ := h
  exact ⟨h1.keep hb, h2.keep hb, h3, h4, Nat.le_trans h5 hb.size, h6, h7, fun i hi => (h8 i hi).keep hb, h9⟩
theorem MemSt.keep {w w' : World} {g B : Nat} {Ss : List Sg} {Bs : List (List UInt8)} (h : MemSt w g B Ss Bs) (hb : Below w.heap.size w w') : MemSt w' g B Ss Bs := by
  obtain ⟨A, c, PQ, h⟩ := h
  exact ⟨A, c, PQ, h.keep hb⟩
theorem drewN_add (w : World) (a b : Nat) : (w.drewN a).drewN b = w.drewN (a + b) := by
  simp [World.drewN, Nat.add_assoc]
def fdI (o : Option Nat) : Int := match o with
  | none => -1
  | some k => k
set_option maxRecDepth 100000 in
theorem idx_any {w : World} {A : Option Addr} {c : Nat} {Ss : List Sg} {Bs : List (List UInt8)} {PQ : List (Nat × Nat)} (hS : SlG w A Ss.length c 1 ptC PQ) (h4 : Ss.length ≤ 4) (hok : ∀ s ∈ Ss, s.ok)
    (hR : ∀ i, i < Ss.length → RgAt w (atD sg0 Ss i) (atD (0, 0) PQ i) (atD [] Bs i)) {x1 x2 x3 : Nat} {a n : Int} {wr : Bool} (ha : i64 a) (hn : i64 n)
    (c1 : w.cell? ⟨x1, 0, none⟩ = some (.int .i64 a)) (c2 : w.cell? ⟨x2, 0, none⟩ = some (.int .i64 n)) (c3 : w.cell? ⟨x3, 0, none⟩ = some (.bool wr)) :
    Calls Try.prog 30 #[.slice A Ss.length c, fnV x1 x2 x3] w fun e w' => e = .returned (.int .i64 (fdI (fdF Ss Bs a n wr))) ∧ ∃ k, w' = w.drewN k := by
  have HS : Hid (∀ k, k < Ss.length → ofB (atD sg0 Ss k) (lnB Bs k) a n wr = true → (∀ j, j < k → ofB (atD sg0 Ss j) (lnB Bs j) a n wr = false) → fdF Ss Bs a n wr = some k) := fun k h1 h2 h3 => fdF_some h1 h2 h3
  have HN : Hid ((∀ j, j < Ss.length → ofB (atD sg0 Ss j) (lnB Bs j) a n wr = false) → fdF Ss Bs a n wr = none) := fdF_none
  generalize fdF Ss Bs a n wr = R at HS HN ⊢
  unfold fnV
  go_enter Try.func30, Try.ntmps30
  go_wp2_with fail
  obtain ⟨wo, rfl⟩ : ∃ wo : World, wo = w := ⟨_, rfl⟩
  go_loopw [8] (fun i wr' => ∃ k m : Nat, k ≤ Ss.length ∧ i = .int .i64 (k : Int) ∧ Hid (∀ j, j < k → ofB (atD sg0 Ss j) (lnB Bs j) a n wr = false) ∧ wr' = wo.drewN m) (fun i _ => Ss.length - (intOf i).toNat)
  case atStart => exact ⟨0, 0, by omega, rfl, (fun j hj => by omega), rfl⟩
  case round =>
    obtain ⟨k, m, hk, rfl, HJ, rfl⟩ := hrel
    by_cases hlt : k < Ss.length
    · have hlt' : (k : Int) < (Ss.length : Int) := by omega
      have hSl := SlG.fr (S := fun _ => False) hS ((Fr.refl (fun _ => False) wo).drewN m) (fun _ _ _ _ h => h)
      obtain ⟨b, o, rfl, hb, hc⟩ := hSl.at_ (0, 0) hlt
      have e0 : (wo.drewN m).cell? ⟨b, o + k, none⟩ = some (.pointer (some ⟨(atD (0, 0) PQ k).1, 0, none⟩)) := by have := hc 0 _ rfl; simpa using this
      have hRk := (hR k hlt).keep (((Fr.refl (fun _ => False) wo).drewN m).below (fun _ _ h => h) (Nat.le_refl _))
      have hSk := sg_ok hok hlt
      generalize hx : atD (0, 0) PQ k = x at e0 hRk
      clear hx hc
      go_wp2_with fail
      refine (of1_any hRk hSk ha hn c1 c2 c3).mono ?_
      rintro e w2 ⟨rfl, m2, rfl⟩
      have e3 : (wo.drewN m).drewN m2 = wo.drewN (m + m2) := drewN_add wo m m2
      rw [e3]
      cases hof : ofB (atD sg0 Ss k) (atD [] Bs k).length a n wr with
      | true =>
        have HR := Lib.hid (HS.out k hlt hof HJ.out)
        clear HS HN hof
        go_wp2_with fail
        go_ret
        exact ⟨by rw [HR.out]; rfl, _, rfl⟩
      | false =>
        have HJ2 : Hid (∀ j, j < k + 1 → ofB (atD sg0 Ss j) (lnB Bs j) a n wr = false) := fun j hj => by
          by_cases h : j = k
          · subst h; exact hof
          · exact HJ.out j (by omega)
        clear HS HN hof HJ
        go_wp2_with fail
        exact ⟨⟨k + 1, m + m2, by omega, by go_num, HJ2, rfl⟩, by simp [intOf]; omega⟩
    · obtain rfl : k = Ss.length := by omega
      have HR := Lib.hid (HN.out HJ.out)
      clear HS HN HJ hlt hk
      go_wp2_with fail
      go_ret
      exact ⟨by rw [HR.out]; rfl, _, rfl⟩
/-- the block that is found -/
def ptF (PQ : List (Nat × Nat)) (o : Option Nat) : Option Addr := match o with
  | none => none
  | some k => some ⟨(atD (0, 0) PQ k).1, 0, none⟩
set_option maxRecDepth 100000 in
theorem find_any {w : World} {g B : Nat} {A : Option Addr} {c : Nat} {PQ : List (Nat × Nat)} {Ss : List Sg} {Bs : List (List UInt8)} (h : MemX w g B A c PQ Ss Bs) {x1 x2 x3 : Nat} {a n : Int} {wr : Bool} (ha : i64 a) (hn : i64 n)
    (c1 : w.cell? ⟨x1, 0, none⟩ = some (.int .i64 a)) (c2 : w.cell? ⟨x2, 0, none⟩ = some (.int .i64 n)) (c3 : w.cell? ⟨x3, 0, none⟩ = some (.bool wr)) :
    Calls Try.prog 27 #[.pointer (some ⟨g, 0, none⟩), fnV x1 x2 x3] w fun e w' => e = .returned (.pointer (ptF PQ (fdF Ss Bs a n wr))) ∧ ∃ k, w' = w.drewN k := by
  obtain ⟨h1, h2, h3, h4, h5, h6, h7, h8, h9⟩ := h
  have g0 : w.cell? ⟨g, 0, none⟩ = some (.slice A Ss.length c) := h1.cell 0
  have g1 : w.cell? ⟨g, 1, none⟩ = some (.bool true) := h1.cell 1
  have hat : ∀ k, fdF Ss Bs a n wr = some k → k < Ss.length := fun k h => (fdF_at h).1
  obtain ⟨R, hR⟩ : ∃ R, R = fdF Ss Bs a n wr := ⟨_, rfl⟩
  rw [← hR] at hat ⊢
  have HR := Lib.hid hR
  clear hR
  obtain ⟨P, hP⟩ : ∃ P, P = ptF PQ R := ⟨_, rfl⟩
  rw [← hP]
  have HP := Lib.hid hP
  clear hP
  go_enter Try.func27, Try.ntmps27
  go_wp2_with fail
  refine (idx_any (Bs := Bs) h2 h6 h7 h8 ha hn c1 c2 c3).mono ?_
  rintro e w2 ⟨rfl, m, rfl⟩
  rw [← HR.out]
  clear HR
  cases R with
  | none =>
    have hI : fdI none = -1 := rfl
    rw [hI]
    go_wp2_with fail
    go_ret
    exact ⟨by rw [HP.out]; rfl, _, rfl⟩
  | some k =>
    have hk := hat k rfl
    have hI : fdI (some k) = (k : Int) := rfl
    rw [hI]
    have hSl := SlG.fr (S := fun _ => False) h2 ((Fr.refl (fun _ => False) w).drewN m) (fun _ _ _ _ h => h)
    obtain ⟨b, o, rfl, hb, hc⟩ := hSl.at_ (0, 0) hk
    have e0 : (w.drewN m).cell? ⟨b, o + k, none⟩ = some (.pointer (some ⟨(atD (0, 0) PQ k).1, 0, none⟩)) := by have := hc 0 _ rfl; simpa using this
    have HP2 : Hid (P = some ⟨(atD (0, 0) PQ k).1, 0, none⟩) := HP.out
    clear HP
    generalize atD (0, 0) PQ k = x at e0 HP2
    clear hc hI hat
    have hk' : (k : Int) < (Ss.length : Int) := by omega
    go_wp2_with fail
    go_ret
    exact ⟨by rw [HP2.out]; rfl, _, rfl⟩
theorem alloc_size (w : World) (o : Obj) : (w.alloc o).heap.size = w.heap.size + 1 := by unfold World.alloc; exact Array.size_push _
theorem box3 (w : World) (c1 c2 c3 : Array Value) (t1 t2 t3 : TypeId) : Blk (((w.alloc (.cells c1 t1)).alloc (.cells c2 t2)).alloc (.cells c3 t3)) w.heap.size t1 c1 ∧ Blk (((w.alloc (.cells c1 t1)).alloc (.cells c2 t2)).alloc (.cells c3 t3)) (w.heap.size + 1) t2 c2 ∧ Blk (((w.alloc (.cells c1 t1)).alloc (.cells c2 t2)).alloc (.cells c3 t3)) (w.heap.size + 2) t3 c3 ∧ Below w.heap.size w (((w.alloc (.cells c1 t1)).alloc (.cells c2 t2)).alloc (.cells c3 t3)) ∧ (((w.alloc (.cells c1 t1)).alloc (.cells c2 t2)).alloc (.cells c3 t3)).heap.size = w.heap.size + 3 := by
  have b1 := Blk.new w t1 c1
  have s1 := alloc_size w (.cells c1 t1)
  have hb1 := (Below.refl w.heap.size w).alloc (Nat.le_refl _) (.cells c1 t1)
  generalize w.alloc (.cells c1 t1) = w1 at b1 s1 hb1 ⊢
  have b2 := Blk.new w1 t2 c2
  have s2 := alloc_size w1 (.cells c2 t2)
  have hb2 := (Below.refl w1.heap.size w1).alloc (Nat.le_refl _) (.cells c2 t2)
  generalize w1.alloc (.cells c2 t2) = w2 at b2 s2 hb2 ⊢
  have b3 := Blk.new w2 t3 c3
  have s3 := alloc_size w2 (.cells c3 t3)
  have hb3 := (Below.refl w2.heap.size w2).alloc (Nat.le_refl _) (.cells c3 t3)
  generalize w2.alloc (.cells c3 t3) = w3 at b3 s3 hb3 ⊢
  have e1 : w1.heap.size = w.heap.size + 1 := s1
  have e2 : w2.heap.size = w.heap.size + 2 := by omega
  rw [e1] at b2
  rw [e2] at b3
  exact ⟨(b1.keep hb2).keep hb3, b2.keep hb3, b3, (hb1.trans (hb2.mono hb1.size)).trans (hb3.mono (by omega)), by omega⟩
set_option maxRecDepth 100000 in
theorem of_any {w : World} {g B : Nat} {A : Option Addr} {c : Nat} {PQ : List (Nat × Nat)} {Ss : List Sg} {Bs : List (List UInt8)} (h : MemX w g B A c PQ Ss Bs) {a n : Int} {wr : Bool} (ha : i64 a) (hn : i64 n) :
    Calls Try.prog 25 #[.pointer (some ⟨g, 0, none⟩), .int .i64 a, .int .i64 n, .bool wr] w fun e w' => e = .returned (.pointer (ptF PQ (fdF Ss Bs a n wr))) ∧ Below w.heap.size w w' := by
  obtain ⟨b1, b2, b3, kb, ks⟩ := box3 w #[.int .i64 a] #[.int .i64 n] #[.bool wr] 3 3 4
  go_enter Try.func25, Try.ntmps25
  go_upto_region 1 with fail
  generalize ((w.alloc (.cells #[.int .i64 a] 3)).alloc (.cells #[.int .i64 n] 3)).alloc (.cells #[.bool wr] 4) = w3 at b1 b2 b3 kb ks ⊢
  go_wp2_with fail
  refine (find_any (h.keep kb) (x1 := w.heap.size) (x2 := w.heap.size + 1) (x3 := w.heap.size + 2) ha hn (b1.cell 0) (b2.cell 0) (b3.cell 0)).mono ?_
  rintro e w4 ⟨rfl, m, rfl⟩
  go_wp2_with fail
  go_ret
  exact ⟨rfl, ((Fr.of_below kb (fun _ => False)).drewN m).below (fun _ _ h => h) (Nat.le_refl _)⟩
end Go.Proofs.Ytpgglefimdllbaa
