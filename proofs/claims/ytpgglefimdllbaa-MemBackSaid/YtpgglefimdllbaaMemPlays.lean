/- The law MemPlays returns true whatever the input. -/
import Derived.Test.YtpgglefimdllbaaMemDone
import Derived.Test.YtpgglefimdllbaaMemWorks
namespace Go.Proofs.Ytpgglefimdllbaa
open Go.RowKit
def ac0 : Ac := ⟨0, 0, 0, none, 0, 0, []⟩
theorem ac_at {w w' : World} {D : Option Addr} {n c : Nat} {l : List Ac} (h : SlG w D n c 4 acC l) (hok : ∀ x ∈ l, x.ok w) {S : Nat → Prop} (hf : Fr S w w') (hS : ∀ j, j < w.heap.size → ¬ S j) {k : Nat} (hk : k < n) :
    ∃ lb lo, D = some ⟨lb, lo, none⟩ ∧ lb < w.heap.size ∧ w'.cell? ⟨lb, lo + k * 4, none⟩ = some (.int .i64 (atD ac0 l k).d) ∧ w'.cell? ⟨lb, lo + k * 4 + 1, none⟩ = some (.int .i64 (atD ac0 l k).a) ∧ w'.cell? ⟨lb, lo + k * 4 + 2, none⟩ = some (.int .i64 (atD ac0 l k).n) ∧ w'.cell? ⟨lb, lo + k * 4 + 3, none⟩ = some (.slice (atD ac0 l k).A (atD ac0 l k).k (atD ac0 l k).c) ∧
      (atD ac0 l k).ok w' ∧ ∀ b o, 0 < (atD ac0 l k).k → (atD ac0 l k).A = some ⟨b, o, none⟩ → b < w.heap.size := by
  obtain ⟨lb, lo, e, hlb, hc⟩ := h.at_ ac0 hk
  have hln := h.2.1
  have hx : (atD ac0 l k).ok w := by
    rw [atD_lt (show k < l.length by omega)]
    exact hok _ (List.getElem_mem _)
  have hcell : ∀ o, w'.cell? ⟨lb, o, none⟩ = w.cell? ⟨lb, o, none⟩ := fun o => hf.cell (p := ⟨lb, o, none⟩) hlb (hS lb hlb)
  obtain ⟨x1, x2, x3, x4⟩ := hx
  have hlt := x4.blk_lt
  refine ⟨lb, lo, e, hlb, ?_, ?_, ?_, ?_, ⟨x1, x2, x3, x4.fr hf (fun b o hp e => hS b (hlt b o hp e))⟩, hlt⟩
  · rw [hcell]; exact hc 0 _ rfl
  · rw [hcell]; exact hc 1 _ rfl
  · rw [hcell]; exact hc 2 _ rfl
  · rw [hcell]; exact hc 3 _ rfl
set_option maxRecDepth 100000 in
set_option maxHeartbeats 3200000 in
theorem memPlays_law {w : World} {A : Option Addr} {n c : Nat} {L : List Sg} (h : SlG w A n c 3 sgC L) (hok : ∀ s ∈ L, s.ok) {D : Option Addr} {m dc : Nat} {l : List Ac} (hl : SlG w D m dc 4 acC l) (hlo : ∀ x ∈ l, x.ok w) :
    Calls Try.prog 4 #[.slice A n c, .slice D m dc] w fun e w' => e = .returned (.bool true) ∧ Below w.heap.size w w' := by
  have hmm := hl.len
  go_enter Try.func4, Try.ntmps4
  go_wp2_with fail
  refine (newM_any h hok).mono ?_
  rintro e w2 ⟨rfl, ⟨A1, c1, PQ, hm2⟩, hb2⟩
  go_wp2_with fail
  refine (newRef_any (h.keep hb2) hok).mono ?_
  rintro e w3 ⟨rfl, hr3, hb3⟩
  have hN := hm2.mbd
  have hm3 := hm2.keep hb3
  have hB3 := hb2.trans (hb3.mono hb2.size)
  have hNB := hb2.size
  clear h hok hm2 hb3 hb2
  generalize w2.heap.size = N at hN hr3 hNB ⊢
  generalize L.take 4 = Ss at hN hm3 hr3
  generalize Ss.map z0 = Bs at hm3 hr3
  generalize hgw : w.heap.size = g at hm3 hN hB3 hNB ⊢
  go_wp2_with fail
  refine (works_any _).mono ?_
  rintro e w4 ⟨rfl, hb4⟩
  have hm4 := hm3.keep hb4
  have hr4 := hr3.keep hb4
  have hB4 := hB3.trans (hb4.mono (hgw ▸ hB3.size))
  go_wp2_with fail
  refine (like_any hm4 hr4).mono ?_
  rintro e w5 ⟨rfl, hb5⟩
  have hm5 := hm4.keep hb5
  have hr5 := hr4.keep hb5
  have hB5 := hB4.trans (hb5.mono (hgw ▸ hB4.size))
  clear hm3 hm4 hr3 hr4 hB3 hB4 hb4 hb5
  go_wp2_with fail
  go_loopw [7] (fun i wr => ∃ (k : Nat) (Bk : List (List UInt8)), k ≤ m ∧ k ≤ 40 ∧ i = .int .i64 (k : Int) ∧ MemX wr g g A1 c1 PQ Ss Bk ∧ RefX wr N N Ss Bk ∧ Fr (fun j => g ≤ j) w wr) (fun i _ => 40 - (intOf i).toNat)
  case atStart => exact ⟨0, Bs, by omega, by omega, rfl, hm5, hr5, Fr.of_below (by rw [hgw]; exact hB5) _⟩
  case round =>
    clear hm5 hr5 hB5
    obtain ⟨k, Bk, hk, hk40, rfl, hm, hr, hf⟩ := hrel
    have hbw : Below g w wr := hf.below (B := g) (fun j hj h => by have h : g ≤ j := h; omega) (by omega)
    by_cases hgo : k < m ∧ k < 40
    · obtain ⟨hg1, hg2⟩ := hgo
      have hg1' : (k : Int) < (m : Int) := by omega
      have hg2' : (k : Int) < 40 := by omega
      obtain ⟨lb, lo, rfl, hlb, e0, e1, e2, e3, hxo, hxb⟩ := ac_at hl hlo hf (fun j hj h => by have h : g ≤ j := h; omega) hg1
      have hlb2 : lb < wr.heap.size := by have := hf.size; omega
      rw [hgw] at hxb
      have hval : (atD ac0 l k).val = .agg #[.int .i64 (atD ac0 l k).d, .int .i64 (atD ac0 l k).a, .int .i64 (atD ac0 l k).n, .slice (atD ac0 l k).A (atD ac0 l k).k (atD ac0 l k).c] := rfl
      generalize atD ac0 l k = x at e0 e1 e2 e3 hxo hxb hval
      have HV := Lib.hid hval
      clear hval
      by_cases h1000 : x.k ≤ 1000
      · have h1000' : ¬ (1000 : Int) < (x.k : Int) := by omega
        go_wp2_with fail
        rw [← HV.out]
        refine (done_any hm hr hN hxo hxb).mono ?_
        rintro e w6 ⟨rfl, hm6, hr6, f6⟩
        have hQ := hm.le
        have hf6 : Fr (fun j => g ≤ j) w w6 := hf.trans (f6.mono (fun j _ hj => by rcases hj with hj | hj; exact hQ j hj; show g ≤ j; omega))
        go_wp2_with fail
        refine (like_any hm6 hr6).mono ?_
        rintro e w7 ⟨rfl, hb7⟩
        have hm7 := hm6.keep hb7
        have hr7 := hr6.keep hb7
        have hf7 := hf6.trans (Fr.of_below hb7 _)
        clear hm hr hm6 hr6 f6 hb7 hf hf6 e0 e1 e2 e3 hxo
        go_wp2_with fail
        exact ⟨⟨k + 1, _, by omega, by omega, by go_num, hm7, hr7, hf7⟩, by simp [intOf]; omega⟩
      · have h1000' : (1000 : Int) < (x.k : Int) := by omega
        clear h1000
        go_wp2_with fail
        refine (works_any _).mono ?_
        rintro e w6 ⟨rfl, hb6⟩
        go_wp2_with fail
        go_ret
        exact ⟨rfl, by rw [hgw]; exact hbw.trans (hb6.mono (hgw ▸ hbw.size))⟩
    · by_cases hkm : k < m
      · have h40 : ¬ (k : Int) < 40 := by omega
        have hkm' : (k : Int) < (m : Int) := by omega
        clear hgo
        go_wp2_with fail
        go_ret
        first | exact ⟨rfl, hbw⟩ | exact ⟨rfl, by rw [hgw]; exact hbw⟩
      · have hkm' : ¬ (k : Int) < (m : Int) := by omega
        clear hgo
        go_wp2_with fail
        go_ret
        first | exact ⟨rfl, hbw⟩ | exact ⟨rfl, by rw [hgw]; exact hbw⟩
end Go.Proofs.Ytpgglefimdllbaa
