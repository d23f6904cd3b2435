/- The law ShedNext returns true whatever the input. -/
import Derived.Test.YtkmfpchcnbippaaShedWorks
namespace Go.Proofs.Ytkmfpchcnbippaa
open Go.RowKit

theorem shedNext_law {w : World} {A : Option Addr} {n c : Nat} {ds : List Int} {B : Option Addr} {m d : Nat} {us : List Int} {R : Option Addr} {r q : Nat} {rs : List Int} (hd : SlI w A n c ds) (hu : SlI w B m d us) (hr : SlI w R r q rs) (x y : Int) (hx : i64 x) :
    Calls Try.prog 4 #[.agg #[.slice A n c, .slice B m d], .agg #[.int .i64 x, .int .i64 y], .slice R r q] w fun e w' => e = .returned (.bool true) ∧ Below w.heap.size w w' := by
  have hn := hd.len
  have hm := hu.len
  have hq := hr.len
  have b1 := (Blk.new w 24 #[.slice A n c, .slice B m d]).alloc (.cells #[.int .i64 x, .int .i64 y] 28)
  have b2 := Blk.new (w.alloc (.cells #[.slice A n c, .slice B m d] 24)) 28 #[.int .i64 x, .int .i64 y]
  rw [World.size_alloc] at b2
  have hb := ((Below.refl w.heap.size w).alloc (Nat.le_refl _) (.cells #[.slice A n c, .slice B m d] 24)).alloc (by simp) (.cells #[.int .i64 x, .int .i64 y] 28)
  have hsz : w.heap.size + 1 + 1 ≤ ((w.alloc (.cells #[.slice A n c, .slice B m d] 24)).alloc (.cells #[.int .i64 x, .int .i64 y] 28)).heap.size := by simp
  by_cases h1 : (100 : Int) < n
  · go_enter Try.func4, Try.ntmps4
    go_wp2_with fail
    refine (works_any _).mono ?_
    rintro e w2 ⟨rfl, hb2⟩
    go_wp2_with fail
    go_ret
    exact ⟨rfl, hb.trans (hb2.mono hb.size)⟩
  · by_cases h2 : (100 : Int) < m
    · have h1' : decide ((100 : Int) < n) = false := by simpa using h1
      go_enter Try.func4, Try.ntmps4
      go_wp2_with fail
      refine (works_any _).mono ?_
      rintro e w2 ⟨rfl, hb2⟩
      go_wp2_with fail
      go_ret
      exact ⟨rfl, hb.trans (hb2.mono hb.size)⟩
    · have h1' : decide ((100 : Int) < n) = false := by simpa using h1
      have h2' : decide ((100 : Int) < m) = false := by simpa using h2
      by_cases h3 : (300 : Int) < r
      · go_enter Try.func4, Try.ntmps4
        go_wp2_with fail
        refine (works_any _).mono ?_
        rintro e w2 ⟨rfl, hb2⟩
        go_wp2_with fail
        go_ret
        exact ⟨rfl, hb.trans (hb2.mono hb.size)⟩
      · have h3' : decide ((300 : Int) < r) = false := by simpa using h3
        go_enter Try.func4, Try.ntmps4
        go_wp2_with fail
        generalize (w.alloc (.cells #[.slice A n c, .slice B m d] 24)).alloc (.cells #[.int .i64 x, .int .i64 y] 28) = w1 at b1 b2 hb hsz ⊢
        have c0 : w1.cell? ⟨w.heap.size, 0, none⟩ = some (.slice A n c) := b1.cell 0
        have c1 : w1.cell? ⟨w.heap.size, 1, none⟩ = some (.slice B m d) := b1.cell 1
        have c2 : w1.cell? ⟨w.heap.size + 1, 0, none⟩ = some (.int .i64 x) := b2.cell 0
        have c3 : w1.cell? ⟨w.heap.size + 1, 1, none⟩ = some (.int .i64 y) := b2.cell 1
        have l0 : w.heap.size < w1.heap.size := by omega
        have l1 : w.heap.size + 1 < w1.heap.size := by omega
        have hd1 := hd.keep hb
        have hu1 := hu.keep hb
        have hr1 := hr.keep hb
        refine wp_region_at (fun _ => False) [5, 5, 4, 2, 0, 2] (by kernel_rfl) (by kernel_rfl) ?_
        simp only [wpSegs, List.take, List.drop]
        repeat (go_big_quiet_step (fail))
        refine wpQuiet_nil (wpHead_want rfl (fun K' hK' => ?_))
        go_wp2_with fail
        refine (next_any (w := w1.drew) (hd1.keep (Below.drew (Below.refl _ _))) (hu1.keep (Below.drew (Below.refl _ _))) x y hx).mono ?_
        rintro e w2 ⟨rfl, hb2⟩
        replace hb2 : Below w1.heap.size w1 w2 := (Below.drew (Below.refl _ w1)).trans hb2
        refine hK' _ _ rfl (fr_graft (Fr.of_below hb2 _)) ?_
        clear hK' K'
        try simp only [List.take, List.drop]
        repeat (go_big_quiet_step (fail))
        refine wpQuiet_nil (wpHead_want rfl (fun K' hK' => ?_))
        go_wp2_with fail
        refine (refNext_any (hd1.keep hb2) (hu1.keep hb2) x y hx).mono ?_
        rintro e w3 ⟨rfl, hb3⟩
        replace hb3 : Below w1.heap.size w1 w3 := hb2.trans (hb3.mono hb2.size)
        refine hK' _ _ rfl (fr_graft (Fr.of_below hb3 _)) ?_
        clear hK' K'
        try simp only [List.take, List.drop]
        repeat (go_big_quiet_step (fail))
        refine wpQuiet_nil (wpHead_want rfl (fun K' hK' => ?_))
        go_wp2_with fail
        refine (levels_any (hd1.keep hb3) (hu1.keep hb3) (hr1.keep hb3) (by omega)).mono ?_
        rintro e w4 ⟨v, rfl, hown4, hb4⟩
        obtain ⟨V, cv, rfl, hs4, -⟩ := SlI.of_own hown4 (levelsS_rng _ _ _ _ (by rw [hd.2.1]; exact hn))
        have hb34 := hb4
        replace hb4 : Below w1.heap.size w1 w4 := hb3.trans (hb4.mono hb3.size)
        refine hK' _ _ rfl (fr_graft (Fr.of_below hb4 _)) ?_
        clear hK' K'
        try simp only [List.take, List.drop]
        repeat (go_big_quiet_step (fail))
        refine wpQuiet_nil (wpHead_want rfl (fun K' hK' => ?_))
        go_wp2_with fail
        refine (refLevels_any (hd1.keep hb4) (hu1.keep hb4) (hr1.keep hb4) (by omega)).mono ?_
        rintro e w5 ⟨v', rfl, hown5, hb5⟩
        obtain ⟨V', cv', rfl, hs5, -⟩ := SlI.of_own hown5 (levelsS_rng _ _ _ _ (by rw [hd.2.1]; exact hn))
        have hs45 := hs4.keep hb5
        replace hb5 : Below w1.heap.size w1 w5 := hb4.trans (hb5.mono hb4.size)
        refine hK' _ _ rfl (fr_graft (Fr.of_below hb5 _)) ?_
        clear hK' K'
        try simp only [List.take, List.drop]
        repeat (go_big_quiet_step (fail))
        refine wpQuiet_nil (wpHead_want rfl (fun K' hK' => ?_))
        go_wp2_with fail
        refine (same_any hs45 hs5).mono ?_
        rintro e w6 ⟨rfl, k, rfl⟩
        rw [show decide (levelsS ds us rs r = levelsS ds us rs r) = true by simp]
        refine hK' _ _ rfl (fr_graft (Fr.of_below (below_drewN hb5 k) _)) ?_
        clear hK' K'
        try simp only [List.take, List.drop]
        repeat (go_big_quiet_step (fail))
        refine wpQuiet_nil (wpHead_want rfl (fun K' hK' => ?_))
        go_wp2_with fail
        refine (works_any _).mono ?_
        rintro e w7 ⟨rfl, hb7⟩
        replace hb7 : Below w1.heap.size w1 w7 := (below_drewN hb5 k).trans (hb7.mono (by simpa using hb5.size))
        refine hK' _ _ rfl (fr_graft (Fr.of_below hb7 _)) ?_
        clear hK' K'
        repeat (go_big_quiet_step (fail))
        refine wpQuiet_nil ?_
        go_wp2_with fail
        go_ret
        exact ⟨rfl, hb.trans (hb7.mono hb.size)⟩
end Go.Proofs.Ytkmfpchcnbippaa
