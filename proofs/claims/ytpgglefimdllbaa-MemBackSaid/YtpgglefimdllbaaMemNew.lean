/- The walk of package mem's New. -/
import Derived.Test.YtpgglefimdllbaaMemWord
import Derived.Deep.OwnRows
namespace Go.Proofs.Ytpgglefimdllbaa
open Go.RowKit
def sgC (s : Sg) : List Value := [.int .i64 s.ba, .int .i64 s.sz, .bool s.wr]
def z0 (s : Sg) : List UInt8 := List.replicate (max 0 (min s.sz 256)).toNat 0
theorem z0_len (s : Sg) : (z0 s).length = (max 0 (min s.sz 256)).toNat := by simp [z0]
theorem z0_le (s : Sg) : (z0 s).length ≤ 256 := by rw [z0_len]; omega
theorem own_le {w : World} {base : Nat} {e : TypeId} {sz : Nat} {v : Value} {n : Nat} {xs : List Value} (h : w.ownsRow base e sz v n xs) (k : Nat) (hk : v.ownBlock = some k) : base ≤ k := by
  rcases Nat.lt_or_ge k base with hlt | hge
  · exact absurd hk (own_ne h hlt).symm
  · exact hge
def NewI (w : World) (g B : Nat) (v : Value) (k : Nat) (PQ : List (Nat × Nat)) (L : List Sg) : Prop :=
  Blk w g 56 #[v, .bool true] ∧ w.ownsRow B 60 1 v k (PQ.flatMap ptC) ∧ PQ.length = k ∧ (∀ i, i < k → RgAt w (atD sg0 L i) (atD (0, 0) PQ i) (z0 (atD sg0 L i))) ∧
  (∀ i, i < k → (atD (0, 0) PQ i).1 ≠ g ∧ v.ownBlock ≠ some (atD (0, 0) PQ i).1 ∧ B ≤ (atD (0, 0) PQ i).2 ∧ (atD (0, 0) PQ i).2 ≠ g ∧ v.ownBlock ≠ some (atD (0, 0) PQ i).2 ∧ ∀ j, j < k → (atD (0, 0) PQ i).2 ≠ (atD (0, 0) PQ j).1 ∧ (i ≠ j → (atD (0, 0) PQ i).2 ≠ (atD (0, 0) PQ j).2)) ∧ v.ownBlock ≠ some g ∧ B ≤ g
theorem atD_app {α : Type} (d : α) (l : List α) (x : α) (i : Nat) : atD d (l ++ [x]) i = if i < l.length then atD d l i else if i = l.length then x else d := by
  unfold atD
  rw [List.getD_eq_getElem?_getD, List.getD_eq_getElem?_getD, List.getElem?_append]
  split
  · rfl
  · split
    · rename_i h1 h2; subst h2; simp
    · rename_i h1 h2
      rw [List.getElem?_eq_none (by simp; omega)]
      rfl
theorem NewI.step {w w' : World} {g B : Nat} {v v' : Value} {k : Nat} {PQ : List (Nat × Nat)} {L : List Sg} (h : NewI w g B v k PQ L) {p q : Nat} (hf : Fr (fun j => j = g ∨ v.ownBlock = some j) w w') (hp : w.heap.size ≤ p) (hq : w.heap.size ≤ q) (hpq : q ≠ p)
    (hr : RgAt w' (atD sg0 L k) (p, q) (z0 (atD sg0 L k))) (ho : w'.ownsRow B 60 1 v' (k + 1) ((PQ ++ [(p, q)]).flatMap ptC)) (hv : v'.ownBlock = v.ownBlock ∨ ∃ r, v'.ownBlock = some r ∧ w.heap.size ≤ r ∧ r ≠ p ∧ r ≠ q) (hg : Blk w' g 56 #[v', .bool true]) :
    NewI w' g B v' (k + 1) (PQ ++ [(p, q)]) L := by
  obtain ⟨h1, h2, h3, h4, h5, h6, h7⟩ := h
  have hgl := h1.lt
  have hold : ∀ b, b < w.heap.size → v.ownBlock ≠ some b → v'.ownBlock ≠ some b := fun b hb hn => by
    rcases hv with hv | ⟨r, hv, hr, _⟩
    · rw [hv]; exact hn
    · rw [hv]; intro e; cases e; omega
  have hlt : ∀ {x t cs}, Blk w x t cs → x < w.heap.size := fun hb => hb.lt
  have hown : ∀ b, v.ownBlock = some b → b < w.heap.size := fun b hb => by
    obtain ⟨_, ⟨rfl, _⟩ | ⟨o, cap, cur, rfl, ho, hh, _⟩⟩ := h2
    · cases hb
    · cases hb; exact (Array.getElem?_eq_some_iff.1 hh).1
  have hnew : ∀ b, w.heap.size ≤ b → (b = p ∨ b = q) → v'.ownBlock ≠ some b := fun b hb hbb => by
    rcases hv with hv | ⟨r, hv, hr, hrp, hrq⟩
    · rw [hv]; intro e; have := hown b e; omega
    · rw [hv]; intro e; cases e; rcases hbb with rfl | rfl
      · exact hrp rfl
      · exact hrq rfl
  have at_ : ∀ i, atD (0, 0) (PQ ++ [(p, q)]) i = if i < k then atD (0, 0) PQ i else if i = k then (p, q) else (0, 0) := fun i => by rw [atD_app, h3]
  refine ⟨hg, ho, by rw [List.length_append, h3]; rfl, fun i hi => ?_, fun i hi => ?_, hold g hgl h6, h7⟩
  · rw [at_]
    by_cases hik : i < k
    · rw [if_pos hik]
      obtain ⟨r1, r2, r3⟩ := h4 i hik
      obtain ⟨n1, n2, n3, n4, n5, _⟩ := h5 i hik
      exact ⟨r1.fr hf (fun e => by rcases e with e | e; exact n1 e; exact n2 e), r2.fr hf (fun e => by rcases e with e | e; exact n4 e; exact n5 e), r3⟩
    · obtain rfl : i = k := by omega
      rw [if_neg hik, if_pos rfl]
      exact hr
  · simp only [at_]
    by_cases hik : i < k
    · rw [if_pos hik]
      obtain ⟨n1, n2, n3, n4, n5, n6⟩ := h5 i hik
      obtain ⟨r1, r2, r3⟩ := h4 i hik
      have l1 := r1.lt; have l2 := r2.lt
      refine ⟨n1, hold _ l1 n2, n3, n4, hold _ l2 n5, fun j hj => ?_⟩
      by_cases hjk : j < k
      · rw [if_pos hjk]; exact n6 j hjk
      · obtain rfl : j = k := by omega
        rw [if_neg hjk, if_pos rfl]
        exact ⟨by show _ ≠ p; omega, fun _ => by show _ ≠ q; omega⟩
    · obtain rfl : i = k := by omega
      rw [if_neg hik, if_pos rfl]
      have hBw : B ≤ w.heap.size := by omega
      refine ⟨by show p ≠ g; omega, hnew p hp (.inl rfl), by show B ≤ q; omega, by show q ≠ g; omega, hnew q hq (.inr rfl), fun j hj => ?_⟩
      by_cases hjk : j < i
      · rw [if_pos hjk]
        obtain ⟨r1, r2, r3⟩ := h4 j hjk
        have l1 := r1.lt; have l2 := r2.lt
        exact ⟨by show q ≠ _; omega, fun _ => by show q ≠ _; omega⟩
      · obtain rfl : j = i := by omega
        rw [if_neg hjk, if_pos rfl]
        exact ⟨hpq, fun h => absurd rfl h⟩
theorem NewI.keep {w w' : World} {g B : Nat} {v : Value} {k : Nat} {PQ : List (Nat × Nat)} {L : List Sg} (h : NewI w g B v k PQ L) (hb : Below w.heap.size w w') : NewI w' g B v k PQ L := by
  obtain ⟨h1, h2, h3, h4, h5, h6, h7⟩ := h
  exact ⟨h1.keep hb, own_below h2 hb, h3, fun i hi => (h4 i hi).keep hb, h5, h6, h7⟩
theorem own_lt {w : World} {base : Nat} {e : TypeId} {sz : Nat} {v : Value} {n : Nat} {xs : List Value} (h : w.ownsRow base e sz v n xs) (k : Nat) (hk : v.ownBlock = some k) : k < w.heap.size := by
  obtain ⟨_, ⟨rfl, _⟩ | ⟨o, cap, cur, rfl, ho, hh, _⟩⟩ := h
  · cases hk
  · cases hk; exact (Array.getElem?_eq_some_iff.1 hh).1
theorem made_one (z : Value) (n : Nat) : madeCells #[z] n = Array.replicate n z := by
  unfold madeCells
  apply Array.ext
  · simp
  · intro i h1 h2
    simp [Nat.mod_one]
theorem box2 (w : World) (c1 c2 : Array Value) (t1 t2 : TypeId) : Blk ((w.alloc (.cells c1 t1)).alloc (.cells c2 t2)) w.heap.size t1 c1 ∧ Blk ((w.alloc (.cells c1 t1)).alloc (.cells c2 t2)) (w.heap.size + 1) t2 c2 ∧ Below w.heap.size w ((w.alloc (.cells c1 t1)).alloc (.cells c2 t2)) ∧ ((w.alloc (.cells c1 t1)).alloc (.cells c2 t2)).heap.size = w.heap.size + 2 := by
  have b1 := Blk.new w t1 c1
  have s1 := alloc_size w (.cells c1 t1)
  have hb1 := (Below.refl w.heap.size w).alloc (Nat.le_refl _) (.cells c1 t1)
  generalize w.alloc (.cells c1 t1) = w1 at b1 s1 hb1 ⊢
  have b2 := Blk.new w1 t2 c2
  have s2 := alloc_size w1 (.cells c2 t2)
  have hb2 := (Below.refl w1.heap.size w1).alloc (Nat.le_refl _) (.cells c2 t2)
  generalize w1.alloc (.cells c2 t2) = w2 at b2 s2 hb2 ⊢
  rw [s1] at b2
  exact ⟨b1.keep hb2, b2, hb1.trans (hb2.mono hb1.size), by omega⟩
theorem pt_info : (Try.prog.info? 60).map (fun i => (i.zero, i.size, i.bytes)) = some (some (.pointer none), 1, 8) := by kernel_rfl
theorem u_sg : Try.prog.underlying 27 = some (.slice (Try.prog.elem 27)) := by kernel_rfl
theorem size3 (w : World) : (sizeOf (Try.prog.elem 27)).run Try.prog w = .ok 3 w := by kernel_rfl
theorem u_rg : Try.prog.underlying 54 = some (.slice 60) := by kernel_rfl
theorem u_by : Try.prog.underlying 39 = some (.slice 5) := by kernel_rfl
theorem NewI.done {w : World} {g : Nat} {v : Value} {PQ : List (Nat × Nat)} {G : List Sg} (h : NewI w g g v G.length PQ G) (h4 : G.length ≤ 4) (hok : ∀ s ∈ G, s.ok) : MemSt w g g G (G.map z0) := by
  obtain ⟨h1, h2, h3, h5, h6, h7, h8⟩ := h
  obtain ⟨A, c, rfl, hs, -⟩ := SlG.of_own h2 (fun _ _ => rfl) h3
  have hat : ∀ i, i < G.length → atD [] (G.map z0) i = z0 (atD sg0 G i) := fun i hi => by
    rw [atD_lt (by simpa using hi), atD_lt hi, List.getElem_map]
  refine ⟨A, c, PQ, h1, hs, by simp, Nat.le_refl _, Nat.le_of_lt h1.lt, h4, hok, fun i hi => by rw [hat i hi]; exact h5 i hi, fun i hi => ?_⟩
  obtain ⟨n1, n2, n3, n4, n5, n6⟩ := h6 i hi
  exact ⟨n3, n4, fun b o e e2 => n5 (by rw [e, e2]; rfl), n6⟩
set_option maxRecDepth 100000 in
set_option maxHeartbeats 6400000 in
theorem newM_any {w : World} {A : Option Addr} {n c : Nat} {L : List Sg} (h : SlG w A n c 3 sgC L) (hok : ∀ s ∈ L, s.ok) :
    Calls Try.prog 7 #[.slice A n c] w fun e w' => e = .returned (.pointer (some ⟨w.heap.size, 0, none⟩)) ∧ MemSt w' w.heap.size w.heap.size (L.take 4) ((L.take 4).map z0) ∧ Below w.heap.size w w' := by
  have hnc := h.1.2.1
  have hln := h.2.1
  have hn63 := h.len
  obtain ⟨i0, hi0, hz0, hz1, hz2⟩ := info_parts pt_info
  have hq : ∃ q A', q ≤ n ∧ q ≤ 4 ∧ (L.take 4).length = q ∧ SlG w A' q c 3 sgC (L.take 4) ∧ (n ≤ 4 ∧ q = n ∧ A' = A ∨ ¬ n ≤ 4 ∧ q = 4 ∧ A' = slA A 0 c 3) := by
    by_cases h4 : n ≤ 4
    · refine ⟨n, A, Nat.le_refl _, h4, by rw [List.length_take]; omega, ?_, .inl ⟨h4, rfl, rfl⟩⟩
      rw [List.take_of_length_le (by omega)]
      exact h
    · refine ⟨4, slA A 0 c 3, by omega, Nat.le_refl _, by rw [List.length_take]; omega, ?_, .inr ⟨h4, rfl, rfl⟩⟩
      have := h.cut (lo := 0) (hi := 4) (by omega) (by omega)
      simpa using this
  obtain ⟨q, A', hqn, hq4, hlt, hcut, hcase⟩ := hq
  have hsl := fun w (h4 : 4 ≤ c) => run_cut_h u_sg size3 w A n c 4 h4
  have hokG : ∀ s ∈ L.take 4, s.ok := fun s hs => hok s (List.mem_of_mem_take hs)
  generalize L.take 4 = G at hlt hcut hokG
  clear hok
  have b1 := Blk.new w 56 #[.slice none 0 0, .bool true]
  have hb1 := (Below.refl w.heap.size w).alloc (Nat.le_refl _) (.cells #[.slice none 0 0, .bool true] 56)
  go_enter Try.func7, Try.ntmps7
  go_upto_region 2 with fail
  generalize w.alloc (.cells #[.slice none 0 0, .bool true] 56) = w1 at b1 hb1 ⊢
  have hcut1 := hcut.keep hb1
  have hN0 : NewI w1 w.heap.size w.heap.size (.slice none 0 0) 0 [] G := ⟨b1, World.ownsRow_nil _ _ _ _, rfl, (fun i hi => by omega), (fun i hi => by omega), (fun e => by cases e), Nat.le_refl _⟩
  clear hcut1 b1
  rcases hcase with ⟨h4, rfl, rfl⟩ | ⟨h4, rfl, rfl⟩
  case' inr =>
    have hsl2 : ∀ w, (Instr.sliceAt 27 (.slice A n c) none (some (.int .i64 4)) none).run Try.prog w = .ok (.slice (slA A 0 c 3) 4 c) w := fun w => hsl w (by omega)
  case' inl =>
    have hsl2 : True := trivial
  all_goals
    clear hsl
    go_upto_region 3 with fail
    go_wp2_with fail
    go_loopw [14] (fun i wr => ∃ (k : Nat) (v : Value) (PQ : List (Nat × Nat)), k ≤ G.length ∧ i = .int .i64 (k : Int) ∧ NewI wr w.heap.size w.heap.size v k PQ G ∧ Below w.heap.size w wr) (fun i _ => G.length - (intOf i).toNat)
    case atStart => exact ⟨0, _, [], by omega, rfl, hN0, hb1⟩
    case round =>
      obtain ⟨k, v, PQ, hk, rfl, hN, hbw⟩ := hrel
      by_cases hgo : k < G.length
      · have hgo' := hgo
        rw [hlt] at hgo'
        obtain ⟨lb, lo, e0, hlb, hlc⟩ := (hcut.keep hbw).at_ sg0 (k := k) (by omega)
        have s0 : wr.cell? ⟨lb, lo + k * 3, none⟩ = some (.int .i64 (atD sg0 G k).ba) := hlc 0 _ rfl
        have s1 : wr.cell? ⟨lb, lo + k * 3 + 1, none⟩ = some (.int .i64 (atD sg0 G k).sz) := hlc 1 _ rfl
        have s2 : wr.cell? ⟨lb, lo + k * 3 + 2, none⟩ = some (.bool (atD sg0 G k).wr) := hlc 2 _ rfl
        clear hlc
        rw [e0]
        have b5 := Blk.new wr 26 #[.int .i64 (atD sg0 G k).ba, .int .i64 (atD sg0 G k).sz, .bool (atD sg0 G k).wr]
        have hb5 := (Below.refl wr.heap.size wr).alloc (Nat.le_refl _) (.cells #[.int .i64 (atD sg0 G k).ba, .int .i64 (atD sg0 G k).sz, .bool (atD sg0 G k).wr] 26)
        go_upto_region 5 with fail
        generalize wr.alloc (.cells #[.int .i64 (atD sg0 G k).ba, .int .i64 (atD sg0 G k).sz, .bool (atD sg0 G k).wr] 26) = w5 at b5 hb5 ⊢
        have hB5 := hbw.trans (hb5.mono hbw.size)
        have hN5 := hN.keep hb5
        have hoL := own_lt hN.2.1
        have hv5 : ¬ v.ownBlock = some wr.heap.size := fun e => by have := hoL _ e; omega
        have hgl : w.heap.size < wr.heap.size := hN.1.lt
        clear hN hb5 s0 s1 s2 hoL
        generalize wr.heap.size = g5 at b5 hv5 hgl ⊢
        clear hcut hlb
        have g0 : w5.cell? ⟨w.heap.size, 0, none⟩ = some v := hN5.1.cell 0
        have gf := hN5.1.frozen
        have hvg : ¬ v.ownBlock = some w.heap.size := hN5.2.2.2.2.2.1
        have y0 : w5.cell? ⟨g5, 0, none⟩ = some (.int .i64 (atD sg0 G k).ba) := b5.cell 0
        have y1 : w5.cell? ⟨g5, 1, none⟩ = some (.int .i64 (atD sg0 G k).sz) := b5.cell 1
        have y2 : w5.cell? ⟨g5, 2, none⟩ = some (.bool (atD sg0 G k).wr) := b5.cell 2
        have hg5 := b5.lt
        have hgl5 : w.heap.size < w5.heap.size := by omega
        generalize hsg : atD sg0 G k = s at b5 y0 y1 y2 ⊢
        have HS := Lib.hid hsg
        clear hsg
        obtain ⟨ba, sz, wb⟩ := s
        simp only at b5 y0 y1 y2 ⊢
        obtain ⟨m, hm⟩ : ∃ m : Nat, m = (max 0 (min sz 256)).toNat := ⟨_, rfl⟩
        have HZ : Hid (z0 ⟨ba, sz, wb⟩ = List.replicate m 0) := by unfold Hid z0; rw [hm]
        have hmk := run_make_row' (P := Try.prog) 39 5 (.int .u8 0) 1 u_by byte_info rfl .i64 .i64 m (by omega) (by omega)
        obtain ⟨cs, hcs⟩ : ∃ cs, cs = madeCells #[.int .u8 0] m := ⟨_, rfl⟩
        rw [← hcs] at hmk
        have HC : Hid (cs = ((z0 ⟨ba, sz, wb⟩).map bv).toArray) := by
          unfold Hid
          rw [hcs, HZ.out]
          rw [made_one, List.map_replicate]
          simp [bv]
        have HL : Hid ((z0 ⟨ba, sz, wb⟩).length = m) := by unfold Hid; rw [HZ.out, List.length_replicate]
        clear hcs HZ
        have hmc : (sz < 0 ∧ m = 0) ∨ (sz = 0 ∧ m = 0) ∨ (0 < sz ∧ sz < 256 ∧ sz = (m : Int)) ∨ (sz = 256 ∧ m = 256) ∨ (256 < sz ∧ m = 256) := by omega
        clear hm
        rcases hmc with ⟨h1, rfl⟩ | ⟨rfl, rfl⟩ | ⟨h1, h2, rfl⟩ | ⟨rfl, rfl⟩ | ⟨h1, rfl⟩
        case' inl => rw [show ((0 : Nat) : Int) = 0 from rfl] at hmk
        case' inr.inl => rw [show ((0 : Nat) : Int) = 0 from rfl] at hmk
        case' inr.inr.inr.inl => rw [show ((256 : Nat) : Int) = 256 from rfl] at hmk
        case' inr.inr.inr.inr => rw [show ((256 : Nat) : Int) = 256 from rfl] at hmk
        all_goals
          refine wp_region_fen (fun j => v.ownBlock = some j) [(10, 0), (1, 0), (0, 0), (0, 0), (2, 2)] (by kernel_rfl) (by kernel_rfl) ?_
          simp only [wpSegsF, List.take, List.drop]
          repeat (go_big_quiet_step (fail))
          refine wpQuiet_nil (wpHeadF_want rfl (fun K' hK' => ?_))
          go_wp2_with fail
          refine hK' _ _ rfl (fr_graft (((Fr.refl (fun j => v.ownBlock = some j) w5).alloc _).drew)) ?_
          clear hK' K' hmk
          have bq : Blk (w5.alloc (.cells cs 5)).drew w5.heap.size 5 cs := Blk.new w5 _ _
          have hbq : Below w5.heap.size w5 (w5.alloc (.cells cs 5)).drew := ((Below.refl _ w5).alloc (Nat.le_refl _) _).drew
          have hzq : (w5.alloc (.cells cs 5)).drew.heap.size = w5.heap.size + 1 := alloc_size w5 _
          generalize (w5.alloc (.cells cs 5)).drew = wq at bq hbq hzq ⊢
          try simp only [List.take, List.drop]
          repeat (go_big_quiet_step (fail))
          refine wpQuiet_nil (wpHeadF_want rfl (fun K' hK' => ?_))
          go_wp2_with fail
          have kb := fun cs4 => box2 wq cs4 #[.pointer (some ⟨w5.heap.size + 1, 0, none⟩)] 62 60
          simp only [hzq] at kb
          have hoL := own_lt hN5.2.1
          have hBq : ∀ cs4, w.heap.size ≤ ((wq.alloc (.cells cs4 62)).alloc (.cells #[.pointer (some ⟨w5.heap.size + 1, 0, none⟩)] 60)).heap.size := fun cs4 => by have := (kb cs4).2.2.2; omega
          have key : ∀ cs4 w9 gr, (v.ownBlock = some gr ∨ gr = ((wq.alloc (.cells cs4 62)).alloc (.cells #[.pointer (some ⟨w5.heap.size + 1, 0, none⟩)] 60)).heap.size) → Fr (fun j => v.ownBlock = some j) ((wq.alloc (.cells cs4 62)).alloc (.cells #[.pointer (some ⟨w5.heap.size + 1, 0, none⟩)] 60)) w9 →
              Blk w9 (w5.heap.size + 1) 62 cs4 ∧ Blk w9 w5.heap.size 5 cs ∧ Fr (fun j => v.ownBlock = some j) w5 w9 ∧ (v.ownBlock = some gr ∨ gr = w5.heap.size + 3) := fun cs4 w9 gr h1 h2 => by
            obtain ⟨bp, bs, hbx, hsx⟩ := kb cs4
            refine ⟨bp.fr h2 (fun e => by have := hoL _ e; omega), ((bq.keep (hbx.mono (by omega))).fr h2 (fun e => by have := hoL _ e; omega)), (Fr.of_below (hbq.trans (hbx.mono (by omega))) _).trans h2, ?_⟩
            rcases h1 with h1 | h1
            · exact .inl h1
            · exact .inr (by omega)
          refine hK' _ _ rfl (fr_graft ((Fr.of_below hbq _).alloc _)) ?_
          clear hK' K'
          try simp only [List.take, List.drop]
          refine wpQuiet_nil (wpHeadF_want rfl (fun K' hK' => ?_))
          go_wp2_with fail
          refine hK' _ _ rfl (fr_graft (((Fr.of_below hbq _).alloc _).alloc _)) ?_
          clear hK' K'
          try simp only [List.take, List.drop]
          refine wpQuiet_nil (wpHeadF_want rfl (fun K' hK' => ?_))
          refine wp_app_blk _ _ _ 54 (by rfl) w.heap.size 60 i0 _ 1 8 u_rg hi0 hz0 hz1 hz2 rfl (by decide) (by decide) v k (PQ.flatMap ptC) (by rfl) (own_below hN5.2.1 (hbq.trans ((kb _).2.2.1.mono (by omega)))) (w5.heap.size + 1 + 1) #[.pointer (some ⟨w5.heap.size + 1, 0, none⟩)] rfl (by simp [Value.oneCell']) (kb _).2.1 ?_ (by omega) ?_ ?_
          · rfl
          · exact hBq _
          · intro gr cap w9 hown9 hf9 hat9
            refine hK' _ _ rfl (fr_graft ((((Fr.of_below hbq _).alloc _).alloc _).trans hf9)) ?_
            clear hK' K'
            obtain ⟨bp, bq9, f9, hat⟩ := key _ w9 gr hat9 hf9
            clear key kb hf9 hat9 bq
            have bg9 : Blk w9 w.heap.size 56 #[v, .bool true] := hN5.1.fr f9 hvg
            have gc9 : w9.cell? ⟨w.heap.size, 0, none⟩ = some v := bg9.cell 0
            have gf9 : ∀ i, w9.frozen? ⟨w.heap.size, i, none⟩ = false := bg9.frozen
            have gl9 := bg9.lt
            simp only [Act.put, List.setIfInBounds_toArray, List.set_cons_succ, List.set_cons_zero, List.take, List.drop]
            repeat (go_big_quiet_step (fail))
            refine wpQuiet_nil (wpHeadF_bar rfl (fun K' hK' => ?_))
            go_wp2_with fail
            refine hK' _ _ (fun _ => False) rfl ?_
            clear hK' K'
            try simp only [wpSegsF]
            repeat (go_big_quiet_step (fail))
            refine wpQuiet_nil ?_
            go_wp2_with fail
            have hgr : gr ≠ w.heap.size := fun e => by
              rcases hat with h | h
              · exact hvg (by rw [h, e])
              · omega
            have bg' : Blk (w9.setCell ⟨w.heap.size, 0, none⟩ (.slice (some ⟨gr, 0, none⟩) (k + 1) cap)) w.heap.size 56 #[.slice (some ⟨gr, 0, none⟩) (k + 1) cap, .bool true] := bg9.set_ 0 _
            have fs : Fr (fun j => j = w.heap.size) w9 (w9.setCell ⟨w.heap.size, 0, none⟩ (.slice (some ⟨gr, 0, none⟩) (k + 1) cap)) := Fr.setCell (S := fun j => j = w.heap.size) (Fr.refl _ w9) (p := ⟨w.heap.size, 0, none⟩) (fun _ => rfl) _
            generalize w9.setCell ⟨w.heap.size, 0, none⟩ (.slice (some ⟨gr, 0, none⟩) (k + 1) cap) = w' at bg' fs ⊢
            have f' : Fr (fun j => j = w.heap.size ∨ v.ownBlock = some j) w5 w' := (f9.mono (fun j _ hj => .inr hj)).trans (fs.mono (fun j _ hj => .inl hj))
            have ho : w'.ownsRow w.heap.size 60 1 (.slice (some ⟨gr, 0, none⟩) (k + 1) cap) (k + 1) ((PQ ++ [(w5.heap.size + 1, w5.heap.size)]).flatMap ptC) := by
              rw [List.flatMap_append]
              exact own_fr (S := fun j => j = w.heap.size) hown9 fs (fun j _ e hj => by cases e; exact hgr hj)
            have hr : RgAt w' (atD sg0 G k) (w5.heap.size + 1, w5.heap.size) (z0 (atD sg0 G k)) := by
              rw [HS.out]
              refine ⟨?_, ?_, z0_le _⟩
              · rw [HL.out]
                exact bp.fr fs (by show ¬ _ = _; omega)
              · rw [← HC.out]
                exact bq9.fr fs (by show ¬ _ = _; omega)
            have hN' := hN5.step (p := w5.heap.size + 1) (q := w5.heap.size) f' (by omega) (Nat.le_refl _) (by omega) hr ho (by
              rcases hat with h | h
              · exact .inl h.symm
              · exact .inr ⟨gr, rfl, by omega, by omega, by omega⟩) bg'
            have hle := own_le hN5.2.1
            exact ⟨⟨k + 1, _, _, by omega, by go_num, hN', hB5.trans (f'.below (B := w.heap.size) (fun j hj h => by rcases h with h | h; omega; have := hle j h; omega) (by omega))⟩, by simp [intOf]; omega⟩
      · obtain rfl : k = G.length := by omega
        clear hgo hk
        go_wp2_with fail
        go_ret
        exact ⟨rfl, hN.done (by omega) hokG, hbw⟩
end Go.Proofs.Ytpgglefimdllbaa
