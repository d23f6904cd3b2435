/- The walk of the document's Short. Printed by wip/gen_short.py. -/
import Derived.Test.YtiglabknaldinaaCfg
import Derived.Test.YtiglabknaldinaaMore
import Derived.Deep.DeepCutAuto
import Derived.Outline
namespace Go.Proofs.Ytiglabknaldinaa
open Go.RowKit
def Cf.v (x : Cf) : Value := .agg #[.slice x.parts.A x.parts.l.length x.parts.c, .slice x.chans.A x.chans.l.length x.chans.c, .slice x.modes.A x.modes.l.length x.modes.c, .slice x.pw.levels.A x.pw.levels.l.length x.pw.levels.c, .slice x.pw.naps.A x.pw.naps.l.length x.pw.naps.c, .int .i64 x.pw.sw, .int .i64 x.pw.idle, .int .i64 x.pw.change, .int .i64 x.pw.quant, .int .i64 x.pw.slow, .int .i64 x.pw.ppm, .slice x.shed.down.A x.shed.down.l.length x.shed.down.c, .slice x.shed.up.A x.shed.up.l.length x.shed.up.c]
def Pt.short (p : Pt) : Prop := p.regs.l.length ≤ 100 ∧ p.procs.l.length ≤ 100 ∧ p.ports.l.length ≤ 100 ∧ p.sems.l.length ≤ 100 ∧ p.pools.l.length ≤ 100 ∧ p.slates.l.length ≤ 100 ∧ p.acts.l.length ≤ 100
/-- a configuration with short lists. -/
def Cf.short (x : Cf) : Prop := (x.parts.l.length ≤ 100 ∧ x.chans.l.length ≤ 100 ∧ x.modes.l.length ≤ 100 ∧ x.pw.levels.l.length ≤ 100 ∧ x.pw.naps.l.length ≤ 100 ∧ x.shed.down.l.length ≤ 100 ∧ x.shed.up.l.length ≤ 100) ∧
  (∀ p ∈ x.parts.l, p.short) ∧ ∀ m ∈ x.modes.l, m.wins.l.length ≤ 100
def ShortPost (x : Cf) (w : World) (e : Ending) (w' : World) : Prop := ∃ b, e = .returned (.bool b) ∧ (b = true → x.short) ∧ Below w.heap.size w w'
theorem all_take_succ {α : Type} {d : α} {p : α → Prop} {l : List α} {k : Nat} (hk : k < l.length) (h : ∀ x ∈ l.take k, p x) (h' : p (atD d l k)) : ∀ x ∈ l.take (k + 1), p x := by
  rw [take_snocG d l k hk]
  intro x hx
  rcases List.mem_append.1 hx with hx | hx
  · exact h x hx
  · rw [List.mem_singleton.1 hx]; exact h'
theorem shortPost_no {x : Cf} {w w' : World} (h : Below w.heap.size w w') : ShortPost x w (.returned (.bool false)) w' := ⟨false, rfl, (fun h => by cases h), h⟩
set_option maxRecDepth 100000 in
set_option maxHeartbeats 6400000 in
theorem short_any {x : Cf} {w : World} (hx : x.ok w) :
    Calls Try.prog 7 #[x.v] w (ShortPost x w) := by
  have hb := ((Below.refl w.heap.size w).alloc (Nat.le_refl _) (.cells #[.slice x.parts.A x.parts.l.length x.parts.c, .slice x.chans.A x.chans.l.length x.chans.c, .slice x.modes.A x.modes.l.length x.modes.c, .slice x.pw.levels.A x.pw.levels.l.length x.pw.levels.c, .slice x.pw.naps.A x.pw.naps.l.length x.pw.naps.c, .int .i64 x.pw.sw, .int .i64 x.pw.idle, .int .i64 x.pw.change, .int .i64 x.pw.quant, .int .i64 x.pw.slow, .int .i64 x.pw.ppm, .slice x.shed.down.A x.shed.down.l.length x.shed.down.c, .slice x.shed.up.A x.shed.up.l.length x.shed.up.c] 33))
  have b1 := Blk.new w 33 #[.slice x.parts.A x.parts.l.length x.parts.c, .slice x.chans.A x.chans.l.length x.chans.c, .slice x.modes.A x.modes.l.length x.modes.c, .slice x.pw.levels.A x.pw.levels.l.length x.pw.levels.c, .slice x.pw.naps.A x.pw.naps.l.length x.pw.naps.c, .int .i64 x.pw.sw, .int .i64 x.pw.idle, .int .i64 x.pw.change, .int .i64 x.pw.quant, .int .i64 x.pw.slow, .int .i64 x.pw.ppm, .slice x.shed.down.A x.shed.down.l.length x.shed.down.c, .slice x.shed.up.A x.shed.up.l.length x.shed.up.c]
  have hn0 := hx.1.1.len
  have hn1 := hx.2.1.1.len
  have hn2 := hx.2.2.1.1.len
  have hn3 := hx.2.2.2.1.1.1.len
  have hn4 := hx.2.2.2.1.2.1.1.len
  have hn5 := hx.2.2.2.2.1.len
  have hn6 := hx.2.2.2.2.2.len
  simp only [Cf.v]
  go_enter Try.func7, Try.ntmps7
  go_upto_region 1 with fail
  generalize w.alloc (.cells #[.slice x.parts.A x.parts.l.length x.parts.c, .slice x.chans.A x.chans.l.length x.chans.c, .slice x.modes.A x.modes.l.length x.modes.c, .slice x.pw.levels.A x.pw.levels.l.length x.pw.levels.c, .slice x.pw.naps.A x.pw.naps.l.length x.pw.naps.c, .int .i64 x.pw.sw, .int .i64 x.pw.idle, .int .i64 x.pw.change, .int .i64 x.pw.quant, .int .i64 x.pw.slow, .int .i64 x.pw.ppm, .slice x.shed.down.A x.shed.down.l.length x.shed.down.c, .slice x.shed.up.A x.shed.up.l.length x.shed.up.c] 33) = w1 at hb b1 ⊢
  have c0 : w1.cell? ⟨w.heap.size, 0, none⟩ = some (.slice x.parts.A x.parts.l.length x.parts.c) := b1.cell 0
  have c1 : w1.cell? ⟨w.heap.size, 1, none⟩ = some (.slice x.chans.A x.chans.l.length x.chans.c) := b1.cell 1
  have c2 : w1.cell? ⟨w.heap.size, 2, none⟩ = some (.slice x.modes.A x.modes.l.length x.modes.c) := b1.cell 2
  have c3 : w1.cell? ⟨w.heap.size, 3, none⟩ = some (.slice x.pw.levels.A x.pw.levels.l.length x.pw.levels.c) := b1.cell 3
  have c4 : w1.cell? ⟨w.heap.size, 4, none⟩ = some (.slice x.pw.naps.A x.pw.naps.l.length x.pw.naps.c) := b1.cell 4
  have c11 : w1.cell? ⟨w.heap.size, 11, none⟩ = some (.slice x.shed.down.A x.shed.down.l.length x.shed.down.c) := b1.cell 11
  have c12 : w1.cell? ⟨w.heap.size, 12, none⟩ = some (.slice x.shed.up.A x.shed.up.l.length x.shed.up.c) := b1.cell 12
  have hs := hb.size
  by_cases h1 : 100 < x.parts.l.length
  · have _d := True.intro
    go_wp2_with fail
    go_ret
    exact shortPost_no hb
  · have _d := True.intro
    by_cases h2 : 100 < x.chans.l.length
    · have _d := True.intro
      go_wp2_with fail
      go_ret
      exact shortPost_no hb
    · have _d := True.intro
      by_cases h3 : 100 < x.modes.l.length
      · have _d := True.intro
        go_wp2_with fail
        go_ret
        exact shortPost_no hb
      · have _d := True.intro
        by_cases h4 : 100 < x.pw.levels.l.length
        · have _d := True.intro
          go_wp2_with fail
          go_ret
          exact shortPost_no hb
        · have _d := True.intro
          by_cases h5 : 100 < x.pw.naps.l.length
          · have _d := True.intro
            go_wp2_with fail
            go_ret
            exact shortPost_no hb
          · have _d := True.intro
            by_cases h6 : 100 < x.shed.down.l.length
            · have _d := True.intro
              go_wp2_with fail
              go_ret
              exact shortPost_no hb
            · have _d := True.intro
              by_cases h7 : 100 < x.shed.up.l.length
              · have _d := True.intro
                go_wp2_with fail
                go_ret
                exact shortPost_no hb
              · have _d := True.intro
                obtain ⟨wo, rfl⟩ : ∃ wo : World, wo = w := ⟨_, rfl⟩
                have H7 : Hid (x.parts.l.length ≤ 100 ∧ x.chans.l.length ≤ 100 ∧ x.modes.l.length ≤ 100 ∧ x.pw.levels.l.length ≤ 100 ∧ x.pw.naps.l.length ≤ 100 ∧ x.shed.down.l.length ≤ 100 ∧ x.shed.up.l.length ≤ 100) := ⟨by omega, by omega, by omega, by omega, by omega, by omega, by omega⟩
                go_wp2_with fail
                go_loopw [3] (fun i wr => ∃ k : Nat, k ≤ x.parts.l.length ∧ i = .int .i64 (k : Int) ∧ (∀ p ∈ x.parts.l.take k, p.short) ∧ Below w1.heap.size w1 wr) (fun i _ => x.parts.l.length - (intOf i).toNat)
                case atStart => exact ⟨0, Nat.zero_le _, rfl, (fun p hp => by simp at hp), Below.refl _ _⟩
                case round =>
                  obtain ⟨k, hk, rfl, hps, hbw⟩ := hrel
                  have HP := Lib.hid hps
                  clear hps
                  have bw := b1.keep hbw
                  clear c0 c1 c2 c3 c4 c11 c12
                  have hB := hb.trans (hbw.mono hb.size)
                  have hBs := hB.size
                  have hlw := bw.lt
                  by_cases hlt : k < x.parts.l.length
                  · obtain ⟨pb, po, hA, hpb, hpc⟩ := (rdPts.keep hx.1 hB).1.at_ Pt0 hlt
                    have hpk := (rdPts.keep hx.1 hB).2 _ (atD_mem (d := Pt0) hlt)
                    have c0 : wr.cell? ⟨wo.heap.size, 0, none⟩ = some (.slice x.parts.A x.parts.l.length x.parts.c) := bw.cell 0
                    rw [hA] at c0
                    have HS := fun (h : (atD Pt0 x.parts.l k).short) => all_take_succ hlt HP.out h
                    have x0 : wr.cell? ⟨pb, po + k * 11, none⟩ = some (.slice (atD Pt0 x.parts.l k).regs.A (atD Pt0 x.parts.l k).regs.l.length (atD Pt0 x.parts.l k).regs.c) := hpc 0 _ rfl
                    have x1 : wr.cell? ⟨pb, po + k * 11 + 1, none⟩ = some (.slice (atD Pt0 x.parts.l k).procs.A (atD Pt0 x.parts.l k).procs.l.length (atD Pt0 x.parts.l k).procs.c) := hpc 1 _ rfl
                    have x2 : wr.cell? ⟨pb, po + k * 11 + 2, none⟩ = some (.slice (atD Pt0 x.parts.l k).ports.A (atD Pt0 x.parts.l k).ports.l.length (atD Pt0 x.parts.l k).ports.c) := hpc 2 _ rfl
                    have x3 : wr.cell? ⟨pb, po + k * 11 + 3, none⟩ = some (.slice (atD Pt0 x.parts.l k).sems.A (atD Pt0 x.parts.l k).sems.l.length (atD Pt0 x.parts.l k).sems.c) := hpc 3 _ rfl
                    have x4 : wr.cell? ⟨pb, po + k * 11 + 4, none⟩ = some (.int .i64 (atD Pt0 x.parts.l k).flags) := hpc 4 _ rfl
                    have x5 : wr.cell? ⟨pb, po + k * 11 + 5, none⟩ = some (.slice (atD Pt0 x.parts.l k).pools.A (atD Pt0 x.parts.l k).pools.l.length (atD Pt0 x.parts.l k).pools.c) := hpc 5 _ rfl
                    have x6 : wr.cell? ⟨pb, po + k * 11 + 6, none⟩ = some (.slice (atD Pt0 x.parts.l k).slates.A (atD Pt0 x.parts.l k).slates.l.length (atD Pt0 x.parts.l k).slates.c) := hpc 6 _ rfl
                    have x7 : wr.cell? ⟨pb, po + k * 11 + 7, none⟩ = some (.int .i64 (atD Pt0 x.parts.l k).cap) := hpc 7 _ rfl
                    have x8 : wr.cell? ⟨pb, po + k * 11 + 8, none⟩ = some (.int .i64 (atD Pt0 x.parts.l k).bud) := hpc 8 _ rfl
                    have x9 : wr.cell? ⟨pb, po + k * 11 + 9, none⟩ = some (.int .i64 (atD Pt0 x.parts.l k).lad) := hpc 9 _ rfl
                    have x10 : wr.cell? ⟨pb, po + k * 11 + 10, none⟩ = some (.slice (atD Pt0 x.parts.l k).acts.A (atD Pt0 x.parts.l k).acts.l.length (atD Pt0 x.parts.l k).acts.c) := hpc 10 _ rfl
                    clear hpc hA
                    generalize atD Pt0 x.parts.l k = p at hpk HS x0 x1 x2 x3 x4 x5 x6 x7 x8 x9 x10 ⊢
                    have hm0 := hpk.1.1.len
                    have hm1 := hpk.2.1.1.len
                    have hm2 := hpk.2.2.1.1.len
                    have hm3 := hpk.2.2.2.1.1.len
                    have hm4 := hpk.2.2.2.2.2.1.1.len
                    have hm5 := hpk.2.2.2.2.2.2.1.len
                    have hm6 := hpk.2.2.2.2.2.2.2.2.2.2.len
                    have HQ := Lib.hid HS
                    clear HS
                    have hb6 := (Below.refl wr.heap.size wr).alloc (Nat.le_refl _) (.cells #[.slice p.regs.A p.regs.l.length p.regs.c, .slice p.procs.A p.procs.l.length p.procs.c, .slice p.ports.A p.ports.l.length p.ports.c, .slice p.sems.A p.sems.l.length p.sems.c, .int .i64 p.flags, .slice p.pools.A p.pools.l.length p.pools.c, .slice p.slates.A p.slates.l.length p.slates.c, .int .i64 p.cap, .int .i64 p.bud, .int .i64 p.lad, .slice p.acts.A p.acts.l.length p.acts.c] 70)
                    have b6 := Blk.new wr 70 #[.slice p.regs.A p.regs.l.length p.regs.c, .slice p.procs.A p.procs.l.length p.procs.c, .slice p.ports.A p.ports.l.length p.ports.c, .slice p.sems.A p.sems.l.length p.sems.c, .int .i64 p.flags, .slice p.pools.A p.pools.l.length p.pools.c, .slice p.slates.A p.slates.l.length p.slates.c, .int .i64 p.cap, .int .i64 p.bud, .int .i64 p.lad, .slice p.acts.A p.acts.l.length p.acts.c]
                    go_upto_region 7 with fail
                    generalize wr.alloc (.cells #[.slice p.regs.A p.regs.l.length p.regs.c, .slice p.procs.A p.procs.l.length p.procs.c, .slice p.ports.A p.ports.l.length p.ports.c, .slice p.sems.A p.sems.l.length p.sems.c, .int .i64 p.flags, .slice p.pools.A p.pools.l.length p.pools.c, .slice p.slates.A p.slates.l.length p.slates.c, .int .i64 p.cap, .int .i64 p.bud, .int .i64 p.lad, .slice p.acts.A p.acts.l.length p.acts.c] 70) = w6 at hb6 b6 ⊢
                    have hB6 := hB.trans (hb6.mono hB.size)
                    have hbw6 := hbw.trans (hb6.mono hbw.size)
                    clear x0 x1 x2 x3 x4 x5 x6 x7 x8 x9 x10
                    have y0 : w6.cell? ⟨wr.heap.size, 0, none⟩ = some (.slice p.regs.A p.regs.l.length p.regs.c) := b6.cell 0
                    have y1 : w6.cell? ⟨wr.heap.size, 1, none⟩ = some (.slice p.procs.A p.procs.l.length p.procs.c) := b6.cell 1
                    have y2 : w6.cell? ⟨wr.heap.size, 2, none⟩ = some (.slice p.ports.A p.ports.l.length p.ports.c) := b6.cell 2
                    have y3 : w6.cell? ⟨wr.heap.size, 3, none⟩ = some (.slice p.sems.A p.sems.l.length p.sems.c) := b6.cell 3
                    have y5 : w6.cell? ⟨wr.heap.size, 5, none⟩ = some (.slice p.pools.A p.pools.l.length p.pools.c) := b6.cell 5
                    have y6 : w6.cell? ⟨wr.heap.size, 6, none⟩ = some (.slice p.slates.A p.slates.l.length p.slates.c) := b6.cell 6
                    have y10 : w6.cell? ⟨wr.heap.size, 10, none⟩ = some (.slice p.acts.A p.acts.l.length p.acts.c) := b6.cell 10
                    by_cases h1 : 100 < p.regs.l.length
                    · have _d := True.intro
                      go_wp2_with fail
                      go_ret
                      exact shortPost_no hB6
                    · have _d := True.intro
                      by_cases h2 : 100 < p.procs.l.length
                      · have _d := True.intro
                        go_wp2_with fail
                        go_ret
                        exact shortPost_no hB6
                      · have _d := True.intro
                        by_cases h3 : 100 < p.ports.l.length
                        · have _d := True.intro
                          go_wp2_with fail
                          go_ret
                          exact shortPost_no hB6
                        · have _d := True.intro
                          by_cases h4 : 100 < p.sems.l.length
                          · have _d := True.intro
                            go_wp2_with fail
                            go_ret
                            exact shortPost_no hB6
                          · have _d := True.intro
                            by_cases h5 : 100 < p.pools.l.length
                            · have _d := True.intro
                              go_wp2_with fail
                              go_ret
                              exact shortPost_no hB6
                            · have _d := True.intro
                              by_cases h6 : 100 < p.slates.l.length
                              · have _d := True.intro
                                go_wp2_with fail
                                go_ret
                                exact shortPost_no hB6
                              · have _d := True.intro
                                by_cases h7 : 100 < p.acts.l.length
                                · have _d := True.intro
                                  go_wp2_with fail
                                  go_ret
                                  exact shortPost_no hB6
                                · have _d := True.intro
                                  have H8 := HQ.out ⟨by omega, by omega, by omega, by omega, by omega, by omega, by omega⟩
                                  have H9 := Lib.hid H8
                                  clear H8
                                  go_wp2_with fail
                                  exact ⟨⟨k + 1, by omega, by go_num, H9.out, hbw6⟩, by simp [intOf]; omega⟩
                  · obtain rfl : k = x.parts.l.length := by omega
                    have HP2 : Hid (∀ p ∈ x.parts.l, p.short) := by have := HP.out; rw [List.take_length] at this; exact this
                    clear HP
                    have c0 : wr.cell? ⟨wo.heap.size, 0, none⟩ = some (.slice x.parts.A x.parts.l.length x.parts.c) := bw.cell 0
                    have c2 : wr.cell? ⟨wo.heap.size, 2, none⟩ = some (.slice x.modes.A x.modes.l.length x.modes.c) := bw.cell 2
                    obtain ⟨w2, rfl⟩ : ∃ w2 : World, w2 = wr := ⟨_, rfl⟩
                    go_wp2_with fail
                    go_loopw [5] (fun i wr => ∃ k : Nat, k ≤ x.modes.l.length ∧ i = .int .i64 (k : Int) ∧ (∀ m ∈ x.modes.l.take k, m.wins.l.length ≤ 100) ∧ w2 = wr) (fun i _ => x.modes.l.length - (intOf i).toNat)
                    case atStart => exact ⟨0, Nat.zero_le _, rfl, (fun p hp => by simp at hp), rfl⟩
                    case round =>
                      obtain ⟨k, hk, rfl, hps, rfl⟩ := hrel
                      have HP := Lib.hid hps
                      clear hps
                      by_cases hlt : k < x.modes.l.length
                      · obtain ⟨mb, mo, hA, hmb, hmc⟩ := (rdMds.keep hx.2.2.1 hB).1.at_ Md0 hlt
                        have hmk := (rdMds.keep hx.2.2.1 hB).2 _ (atD_mem (d := Md0) hlt)
                        have m1 : w2.cell? ⟨mb, mo + k * 2 + 1, none⟩ = some (.slice (atD Md0 x.modes.l k).wins.A (atD Md0 x.modes.l k).wins.l.length (atD Md0 x.modes.l k).wins.c) := hmc 1 _ rfl
                        have HS := fun (h : (atD Md0 x.modes.l k).wins.l.length ≤ 100) => all_take_succ (p := fun m : Md => m.wins.l.length ≤ 100) hlt HP.out h
                        have hmn := hmk.2.1.len
                        rw [hA] at c2
                        clear hmc hA hmk
                        generalize atD Md0 x.modes.l k = m at HS m1 hmn
                        by_cases hw : 100 < m.wins.l.length
                        · clear HS
                          go_wp2_with fail
                          go_ret
                          exact shortPost_no hB
                        · have HQ := Lib.hid (HS (by omega))
                          clear HS
                          go_wp2_with fail
                          exact ⟨⟨k + 1, by omega, by go_num, HQ.out, by first | trivial | rfl⟩, by simp [intOf]; omega⟩
                      · obtain rfl : k = x.modes.l.length := by omega
                        go_wp2_with fail
                        go_ret
                        have hM := HP.out
                        rw [List.take_length] at hM
                        exact ⟨true, rfl, fun _ => ⟨H7.out, HP2.out, hM⟩, hB⟩
end Go.Proofs.Ytiglabknaldinaa
