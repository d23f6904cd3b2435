/- The walks of package calendar: a mode's windows, the mode that comes, the page that comes. -/
import Derived.Test.YtiglabknaldinaaCalSpec
import Derived.Test.YtiglabknaldinaaCfgShort
import Derived.Test.YtiglabknaldinaaShedWalks
import Derived.Test.YtiglabknaldinaaSeq
import Derived.Deep.DeepCutAuto
import Derived.Outline
namespace Go.Proofs.Ytiglabknaldinaa
open Go.RowKit
def Md.v (m : Md) : Value := .agg #[.int .i64 m.frame, m.wins.v]
def Fm.v (x : Fm) : Value := .agg #[.int .i64 x.reading, .int .i64 x.mode, .int .i64 x.drift, .int .i64 x.choice]
theorem turn_any (x : Cf) {w : World} (hx : x.ok w) (mode want : Int) :
    Calls Try.prog 13 #[x.v, .int .i64 mode, .int .i64 want] w fun e w' => e = .returned (.int .i64 (turnS x.modes.l.length mode want)) ∧ Below w.heap.size w w' := by
  have hn := hx.2.2.1.1.len
  have hb := (Below.refl w.heap.size w).alloc (Nat.le_refl _) (.cells #[x.parts.v, x.chans.v, x.modes.v, x.pw.levels.v, x.pw.naps.v, .int .i64 x.pw.sw, .int .i64 x.pw.idle, .int .i64 x.pw.change, .int .i64 x.pw.quant, .int .i64 x.pw.slow, .int .i64 x.pw.ppm, x.shed.down.v, x.shed.up.v] 33)
  have HT : Hid (turnS x.modes.l.length mode want = if 0 ≤ want ∧ want < x.modes.l.length then want else mode) := rfl
  simp only [Hd.v] at hb
  simp only [Cf.v, Hd.v]
  by_cases h1 : 0 ≤ want
  · by_cases h2 : want < x.modes.l.length
    · go_enter Try.func13, Try.ntmps13
      go_wp2_with fail
      go_ret
      exact ⟨by rw [HT.out, if_pos ⟨h1, h2⟩]; rfl, hb⟩
    · go_enter Try.func13, Try.ntmps13
      go_wp2_with fail
      go_ret
      exact ⟨by rw [HT.out, if_neg (by omega)]; rfl, hb⟩
  · go_enter Try.func13, Try.ntmps13
    go_wp2_with fail
    go_ret
    exact ⟨by rw [HT.out, if_neg (by omega)]; rfl, hb⟩
theorem stG_info : (Try.prog.info? 51).map (fun i => (i.zero, i.size, i.bytes)) = some (some (.agg #[.int .i64 0, .int .i64 0, .int .i64 0]), 3, 24) := by kernel_rfl
theorem stF_len (l : List St) : (l.flatMap St.f).length = l.length * 3 := flat_len l (fun _ _ => rfl)
theorem slotsS_take (m : Md) (at_ : Int) (k : Nat) (hk : k < m.wins.l.length) : (m.wins.l.take (k + 1)).map (slotS at_) = (m.wins.l.take k).map (slotS at_) ++ [slotS at_ (atD Wn0 m.wins.l k)] := by
  rw [take_snocG Wn0 _ _ hk, List.map_append]
  rfl
set_option maxRecDepth 100000 in
set_option maxHeartbeats 1600000 in
theorem slots_any (m : Md) {w : World} (hm : m.ok w) (h100 : m.wins.l.length ≤ 1000) (at_ : Int) (ha : i64 at_) :
    Calls Try.prog 12 #[m.v, .int .i64 at_] w fun e w' => ∃ v, e = .returned v ∧ w'.ownsRow w.heap.size 51 3 v (slotsS m at_).length ((slotsS m at_).flatMap St.f) ∧ Below w.heap.size w w' := by
  obtain ⟨i0, hi0, hz0, hz1, hz2⟩ := info_parts stG_info
  have hu : Try.prog.underlying 45 = some (.slice 51) := by kernel_rfl
  have hsn := slotsS_take m at_
  obtain ⟨fr, ⟨WA, wc, wl⟩⟩ := m
  have hw := hm.2
  have hsl := hw.1
  simp only [] at hsl h100 hsn
  have HN := hsl.len
  simp only [Md.v, Hd.v]
  unfold i64 at ha
  unfold slotsS
  simp only []
  go_enter Try.func12, Try.ntmps12
  go_upto_region 1 with fail
  have hB0 := (Below.refl w.heap.size w).alloc (Nat.le_refl _) (.cells #[.int .i64 fr, .slice WA wl.length wc] 49)
  have b0 := Blk.new w 49 #[.int .i64 fr, .slice WA wl.length wc]
  generalize w.alloc (.cells #[.int .i64 fr, .slice WA wl.length wc] 49) = w0 at hB0 b0 ⊢
  have c1 : w0.cell? ⟨w.heap.size, 1, none⟩ = some (.slice WA wl.length wc) := b0.cell 1
  go_wp2_with fail
  obtain ⟨wo, rfl⟩ : ∃ wo : World, wo = w := ⟨_, rfl⟩
  go_loopw [5, 11] (fun v i wr => ∃ k : Nat, k ≤ wl.length ∧ i = .int .i64 (k : Int) ∧ wr.ownsRow wo.heap.size 51 3 v k (((wl.take k).map (slotS at_)).flatMap St.f) ∧ Below wo.heap.size wo wr) (fun _ i _ => wl.length - (intOf i).toNat)
  case atStart => exact ⟨0, by omega, rfl, World.ownsRow_nil _ _ _ _, hB0⟩
  case round =>
    clear c1 b0 hB0
    obtain ⟨k, hk, rfl, hown, hbw⟩ := hrel
    by_cases hlt : k < wl.length
    · obtain ⟨bb, o, rfl, hbb, hc⟩ := (hsl.keep hbw).at_ Wn0 hlt
      have x0 : wr.cell? ⟨bb, o + k * 3, none⟩ = some (.int .i64 (atD Wn0 wl k).part) := hc 0 _ rfl
      have x1 : wr.cell? ⟨bb, o + k * 3 + 1, none⟩ = some (.int .i64 (atD Wn0 wl k).start) := hc 1 _ rfl
      have x2 : wr.cell? ⟨bb, o + k * 3 + 2, none⟩ = some (.int .i64 (atD Wn0 wl k).len) := hc 2 _ rfl
      have HS := Lib.hid (hsn k hlt)
      clear hc hsn
      generalize atD Wn0 wl k = q at x0 x1 x2 HS
      obtain ⟨q0, q1, q2⟩ := q
      simp only [slotS] at x0 x1 x2 HS
      go_upto_region 5 with fail
      have b6 := Blk.new wr 55 #[.int .i64 q0, .int .i64 q1, .int .i64 q2]
      have hb6 := (Below.refl wr.heap.size wr).alloc (Nat.le_refl _) (.cells #[.int .i64 q0, .int .i64 q1, .int .i64 q2] 55)
      generalize wr.alloc (.cells #[.int .i64 q0, .int .i64 q1, .int .i64 q2] 55) = w3 at b6 hb6 ⊢
      have hB3 := hbw.trans (hb6.mono hbw.size)
      have hown3 := own_below hown hb6
      generalize wr.heap.size = g6 at b6 ⊢
      have y0 : w3.cell? ⟨g6, 0, none⟩ = some (.int .i64 q0) := b6.cell 0
      have y1 : w3.cell? ⟨g6, 1, none⟩ = some (.int .i64 q1) := b6.cell 1
      have y2 : w3.cell? ⟨g6, 2, none⟩ = some (.int .i64 q2) := b6.cell 2
      have hz3 := hB3.size
      clear x0 x1 x2 hown hb6
      go_wp2_with (at_builtin; refine wpList_app1 w3 (by rfl) _ _ 45 (by rfl) wo.heap.size 51 i0 _ 3 24 hu hi0 hz0 hz1 hz2 rfl (by decide) (by decide) _ k _ (by rfl) hown3 #[.int .i64 q0, .int .i64 (wrap64 (at_ + q1)), .int .i64 (wrap64 (wrap64 (at_ + q1) + q2))] rfl (by simp [Value.oneCell']) (by rfl) (by omega) (by omega) ?_; intro v' w4 hown4 hf4 hat4)
      refine ⟨⟨k + 1, by omega, by go_num, ?_, ?_⟩, by simp [intOf]; omega⟩
      · rw [HS.out, List.flatMap_append]
        exact hown4
      · exact app_below hB3 hown3 hf4
    · obtain rfl : k = wl.length := by omega
      go_wp2_with fail
      go_ret
      rw [List.length_map]
      rw [List.take_length] at hown
      exact ⟨_, rfl, hown, hbw⟩
end Go.Proofs.Ytiglabknaldinaa
