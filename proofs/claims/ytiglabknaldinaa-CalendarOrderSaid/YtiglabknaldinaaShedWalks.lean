/- The walks of package shed: what each function returns, and that it changes nothing that was there but its machine's level. -/
import Derived.Test.YtiglabknaldinaaShedSpec
import Derived.Test.YtiglabknaldinaaProg
namespace Go.Proofs.Ytiglabknaldinaa
open Go.RowKit

/-- the machine at block b: its thresholds' slices, and its level. -/
structure Mach (w : World) (b : Nat) (A : Option Addr) (n c : Nat) (ds : List Int) (B : Option Addr) (m d : Nat) (us : List Int) (lv : Int) : Prop where
  blk : Blk w b 111 #[.slice A n c, .slice B m d, .int .i64 lv]
  dn : SlI w A n c ds
  up : SlI w B m d us
  rng : i64 lv

theorem falls_any {w : World} {b : Nat} {A : Option Addr} {n c : Nat} {ds : List Int} {B : Option Addr} {m d : Nat} {us : List Int} {lv : Int} (h : Mach w b A n c ds B m d us lv) (rd : Int) :
    Calls Try.prog 37 #[.pointer (some ⟨b, 0, none⟩), .int .i64 rd] w fun e w' => e = .returned (.bool (low ds lv rd)) ∧ ∃ k, w' = w.drewN k := by
  obtain ⟨hb, hd, -, -⟩ := h
  have h0 : w.cell? ⟨b, 0, none⟩ = some (.slice A n c) := hb.cell 0
  have h2 : w.cell? ⟨b, 2, none⟩ = some (.int .i64 lv) := hb.cell 2
  have hn := hd.len
  have hl := hd.2.1
  by_cases h1 : 0 ≤ lv
  · by_cases h3 : lv < n
    · obtain ⟨k, rfl⟩ := Int.eq_ofNat_of_zero_le h1
      obtain ⟨bs, o, rfl, hbs, hck⟩ := hd.at_ (k := k) (by omega)
      have HF : Hid (low ds k rd = decide (rd < at0 ds k)) := by
        unfold low Hid; simp; omega
      clear hd hb hl
      go_enter Try.func37, Try.ntmps37
      go_wp2
      go_quiet (fail)
      go_wp2
      go_ret
      exact ⟨by rw [HF.out]; rfl, _, rfl⟩
    · have HF : Hid (low ds lv rd = false) := by
        unfold low Hid; simp; omega
      have h3' : decide (lv < n) = false := by simpa using h3
      clear hd hb hl
      go_enter Try.func37, Try.ntmps37
      go_wp2
      go_quiet (fail)
      go_wp2
      go_ret
      exact ⟨by rw [HF.out]; rfl, _, rfl⟩
  · have HF : Hid (low ds lv rd = false) := by
      unfold low Hid; simp; omega
    have h1' : decide (0 ≤ lv) = false := by simpa using h1
    clear hd hb hl
    go_enter Try.func37, Try.ntmps37
    go_wp2
    go_quiet (fail)
    go_wp2
    go_ret
    exact ⟨by rw [HF.out]; rfl, _, rfl⟩

theorem rises_any {w : World} {b : Nat} {A : Option Addr} {n c : Nat} {ds : List Int} {B : Option Addr} {m d : Nat} {us : List Int} {lv : Int} (h : Mach w b A n c ds B m d us lv) (rd : Int) :
    Calls Try.prog 38 #[.pointer (some ⟨b, 0, none⟩), .int .i64 rd] w fun e w' => e = .returned (.bool (high us lv rd)) ∧ ∃ k, w' = w.drewN k := by
  obtain ⟨hb, -, hd, hr⟩ := h
  have h0 : w.cell? ⟨b, 1, none⟩ = some (.slice B m d) := hb.cell 1
  have h2 : w.cell? ⟨b, 2, none⟩ = some (.int .i64 lv) := hb.cell 2
  have hn := hd.len
  have hl := hd.2.1
  unfold i64 at hr
  by_cases h1 : 1 ≤ lv
  · by_cases h3 : lv ≤ m
    · obtain ⟨bs, o, rfl, hbs, hck⟩ := hd.at_ (k := lv.toNat - 1) (by omega)
      have HF : Hid (high us lv rd = decide (at0 us (lv.toNat - 1) ≤ rd)) := by
        unfold high Hid; simp; omega
      have hs0 : 0 ≤ lv - 1 := by omega
      have hs1 : lv - 1 < m := by omega
      have hs2 : IntKind.i64.wrap (lv - 1) = lv - 1 := IntWalk.i64_in _ (by omega)
      clear hd hb hl
      go_enter Try.func38, Try.ntmps38
      go_wp2
      go_quiet (fail)
      go_wp2
      go_ret
      exact ⟨by rw [HF.out]; rfl, _, rfl⟩
    · have HF : Hid (high us lv rd = false) := by
        unfold high Hid; simp; omega
      have h3' : decide (lv ≤ m) = false := by simpa using h3
      clear hd hb hl
      go_enter Try.func38, Try.ntmps38
      go_wp2
      go_quiet (fail)
      go_wp2
      go_ret
      exact ⟨by rw [HF.out]; rfl, _, rfl⟩
  · have HF : Hid (high us lv rd = false) := by
      unfold high Hid; simp; omega
    have h1' : decide (1 ≤ lv) = false := by simpa using h1
    clear hd hb hl
    go_enter Try.func38, Try.ntmps38
    go_wp2
    go_quiet (fail)
    go_wp2
    go_ret
    exact ⟨by rw [HF.out]; rfl, _, rfl⟩

theorem Mach.drewN {w : World} {b : Nat} {A : Option Addr} {n c : Nat} {ds : List Int} {B : Option Addr} {m d : Nat} {us : List Int} {lv : Int} (h : Mach w b A n c ds B m d us lv) (k : Nat) : Mach (w.drewN k) b A n c ds B m d us lv :=
  ⟨h.blk.drewN k, h.dn.keep (below_refl_drewN _ _ _), h.up.keep (below_refl_drewN _ _ _), h.rng⟩
theorem Mach.fr {w w' : World} {b : Nat} {A : Option Addr} {n c : Nat} {ds : List Int} {B : Option Addr} {m d : Nat} {us : List Int} {lv : Int} (h : Mach w b A n c ds B m d us lv) {S : Nat → Prop} (hf : Fr S w w') (hb : ¬ S b)
    (hA : ∀ g o, 0 < n → A = some ⟨g, o, none⟩ → ¬ S g) (hB : ∀ g o, 0 < m → B = some ⟨g, o, none⟩ → ¬ S g) : Mach w' b A n c ds B m d us lv :=
  ⟨h.blk.fr hf hb, ⟨h.dn.1.fr hf hA, h.dn.2⟩, ⟨h.up.1.fr hf hB, h.up.2⟩, h.rng⟩
/-- the machine with another level, where the slices lie elsewhere. -/
theorem Mach.set_ {w : World} {b : Nat} {A : Option Addr} {n c : Nat} {ds : List Int} {B : Option Addr} {m d : Nat} {us : List Int} {lv : Int} (h : Mach w b A n c ds B m d us lv)
    (hA : ∀ g o, 0 < n → A = some ⟨g, o, none⟩ → g ≠ b) (hB : ∀ g o, 0 < m → B = some ⟨g, o, none⟩ → g ≠ b) {lv' : Int} (hr : i64 lv') : Mach (w.setCell ⟨b, 2, none⟩ (.int .i64 lv')) b A n c ds B m d us lv' := by
  have hf : Fr (· = b) w (w.setCell ⟨b, 2, none⟩ (.int .i64 lv')) := (Fr.refl (· = b) w).setCell (p := ⟨b, 2, none⟩) (fun _ => rfl) _
  exact ⟨by simpa using h.blk.set_ 2 (.int .i64 lv'), ⟨h.dn.1.fr hf fun g o hn e => hA g o hn e, h.dn.2⟩, ⟨h.up.1.fr hf fun g o hn e => hB g o hn e, h.up.2⟩, hr⟩

theorem step_any {w : World} {b : Nat} {A : Option Addr} {n c : Nat} {ds : List Int} {B : Option Addr} {m d : Nat} {us : List Int} {lv : Int} (h : Mach w b A n c ds B m d us lv)
    (hA : ∀ g o, 0 < n → A = some ⟨g, o, none⟩ → g ≠ b) (hB : ∀ g o, 0 < m → B = some ⟨g, o, none⟩ → g ≠ b) (rd : Int) :
    Calls Try.prog 35 #[.pointer (some ⟨b, 0, none⟩), .int .i64 rd] w fun e w' => e = .returned (.int .i64 (nextS ds us lv rd)) ∧ Mach w' b A n c ds B m d us (nextS ds us lv rd) ∧ Fr (· = b) w w' := by
  have h2 : w.cell? ⟨b, 2, none⟩ = some (.int .i64 lv) := h.blk.cell 2
  have hz : w.frozen? ⟨b, 2, none⟩ = false := h.blk.frozen 2
  have hr' := nextS_rng ds us lv rd (by rw [h.dn.2.1]; exact h.dn.len) h.rng
  cases hlo : low ds lv rd
  · cases hhi : high us lv rd
    · have HF : Hid (nextS ds us lv rd = lv) := by unfold nextS Hid; simp [hlo, hhi]
      have HL := Lib.hid hlo
      have HH := Lib.hid hhi
      clear hlo hhi hr'
      go_enter Try.func35, Try.ntmps35
      go_wp2_with fail
      refine (falls_any h rd).mono ?_
      rintro e w' ⟨rfl, k, rfl⟩
      rw [HL.out]
      go_wp2_with fail
      refine (rises_any (h.drewN k) rd).mono ?_
      rintro e w' ⟨rfl, j, rfl⟩
      rw [HH.out]
      go_wp2_with fail
      go_ret
      rw [HF.out]
      exact ⟨rfl, h.drewN _, (Fr.refl _ _).drewN _⟩
    · have HF : Hid (nextS ds us lv rd = lv - 1) := by unfold nextS Hid; simp [hlo, hhi]
      have HL := Lib.hid hlo
      have HH := Lib.hid hhi
      have hb : 1 ≤ lv ∧ lv ≤ 9223372036854775807 := by
        have := h.up.len; have := h.up.2.1
        unfold high at hhi; simp at hhi; omega
      rw [HF.out] at hr'
      clear hlo hhi
      go_enter Try.func35, Try.ntmps35
      go_wp2_with fail
      refine (falls_any h rd).mono ?_
      rintro e w' ⟨rfl, k, rfl⟩
      rw [HL.out]
      go_wp2_with fail
      refine (rises_any (h.drewN k) rd).mono ?_
      rintro e w' ⟨rfl, j, rfl⟩
      rw [HH.out]
      go_wp2_with fail
      go_ret
      rw [HF.out]
      refine ⟨rfl, ?_, ?_⟩
      · exact (h.drewN _).set_ hA hB hr'
      · exact ((Fr.refl _ _).drewN _).setCell (by simp) _
  · have HF : Hid (nextS ds us lv rd = lv + 1) := by unfold nextS Hid; simp [hlo]
    have HL := Lib.hid hlo
    have hb : 0 ≤ lv ∧ lv + 1 ≤ 9223372036854775807 := by
      have := h.dn.len; have := h.dn.2.1
      unfold low at hlo; simp at hlo; omega
    rw [HF.out] at hr'
    clear hlo
    go_enter Try.func35, Try.ntmps35
    go_wp2_with fail
    refine (falls_any h rd).mono ?_
    rintro e w' ⟨rfl, k, rfl⟩
    rw [HL.out]
    go_wp2_with fail
    go_ret
    rw [HF.out]
    refine ⟨rfl, ?_, ?_⟩
    · exact (h.drewN _).set_ hA hB hr'
    · exact ((Fr.refl _ _).drewN _).setCell (by simp) _

theorem next_any {w : World} {A : Option Addr} {n c : Nat} {ds : List Int} {B : Option Addr} {m d : Nat} {us : List Int} (hd : SlI w A n c ds) (hu : SlI w B m d us) (lv rd : Int) (hlv : i64 lv) :
    Calls Try.prog 31 #[.agg #[.slice A n c, .slice B m d], .int .i64 lv, .int .i64 rd] w fun e w' => e = .returned (.int .i64 (nextS ds us lv rd)) ∧ Below w.heap.size w w' := by
  go_enter Try.func31, Try.ntmps31
  go_wp2_with fail
  have hb0 := ((Below.refl w.heap.size w).alloc (Nat.le_refl _) (.cells #[.slice A n c, .slice B m d] 31)).alloc (by simp) (.cells #[.slice A n c, .slice B m d, .int .i64 lv] 111)
  refine (step_any (b := w.heap.size + 1) ⟨by have := Blk.new (w.alloc (.cells #[.slice A n c, .slice B m d] 31)) 111 #[.slice A n c, .slice B m d, .int .i64 lv]; simpa using this, hd.keep hb0, hu.keep hb0, hlv⟩ ?_ ?_ rd).mono ?_
  · exact fun g o hn e => hd.ne_ (by omega) hn g o e
  · exact fun g o hn e => hu.ne_ (by omega) hn g o e
  rintro e w1 ⟨rfl, hm, hf⟩
  go_wp2_with fail
  go_ret
  exact ⟨rfl, hb0.trans (hf.below (by intro k hk; omega) (by simp; omega))⟩
end Go.Proofs.Ytiglabknaldinaa
