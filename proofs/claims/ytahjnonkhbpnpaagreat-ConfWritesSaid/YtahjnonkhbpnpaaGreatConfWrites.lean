/- The law ConfWrites returns true whatever the input. -/
import Derived.Test.YtahjnonkhbpnpaaGreatCm6
import Derived.Test.YtahjnonkhbpnpaaGreatCm9
namespace Go.Proofs.YtahjnonkhbpnpaaGreat
open Go.RowKit
set_option maxRecDepth 100000 in
set_option maxHeartbeats 6400000 in
theorem confWrites_law {x : Cf} {w : World} (hx : rdCf.ok w x) :
    Calls Tryz.prog 3 #[x.v] w fun e w' => e = .returned (.bool true) ∧ Below w.heap.size w w' := by
  have hb := (Below.refl w.heap.size w).alloc (Nat.le_refl _) (.cells #[.slice x.parts.A x.parts.l.length x.parts.c, .slice x.chans.A x.chans.l.length x.chans.c, .slice x.modes.A x.modes.l.length x.modes.c, .slice x.pw.levels.A x.pw.levels.l.length x.pw.levels.c, .slice x.pw.naps.A x.pw.naps.l.length x.pw.naps.c, .int .i64 x.pw.sw, .int .i64 x.pw.idle, .int .i64 x.pw.change, .int .i64 x.pw.quant, .int .i64 x.pw.slow, .int .i64 x.pw.ppm, .slice x.shed.down.A x.shed.down.l.length x.shed.down.c, .slice x.shed.up.A x.shed.up.l.length x.shed.up.c] 33)
  have b1 := Blk.new w 33 #[.slice x.parts.A x.parts.l.length x.parts.c, .slice x.chans.A x.chans.l.length x.chans.c, .slice x.modes.A x.modes.l.length x.modes.c, .slice x.pw.levels.A x.pw.levels.l.length x.pw.levels.c, .slice x.pw.naps.A x.pw.naps.l.length x.pw.naps.c, .int .i64 x.pw.sw, .int .i64 x.pw.idle, .int .i64 x.pw.change, .int .i64 x.pw.quant, .int .i64 x.pw.slow, .int .i64 x.pw.ppm, .slice x.shed.down.A x.shed.down.l.length x.shed.down.c, .slice x.shed.up.A x.shed.up.l.length x.shed.up.c]
  simp only [Cf.v]
  go_enter Tryz.func3, Tryz.ntmps3
  go_upto_region 1 with fail
  generalize w.alloc (.cells #[.slice x.parts.A x.parts.l.length x.parts.c, .slice x.chans.A x.chans.l.length x.chans.c, .slice x.modes.A x.modes.l.length x.modes.c, .slice x.pw.levels.A x.pw.levels.l.length x.pw.levels.c, .slice x.pw.naps.A x.pw.naps.l.length x.pw.naps.c, .int .i64 x.pw.sw, .int .i64 x.pw.idle, .int .i64 x.pw.change, .int .i64 x.pw.quant, .int .i64 x.pw.slow, .int .i64 x.pw.ppm, .slice x.shed.down.A x.shed.down.l.length x.shed.down.c, .slice x.shed.up.A x.shed.up.l.length x.shed.up.c] 33) = w1 at hb b1 ⊢
  obtain ⟨gx, hgx⟩ : ∃ gx, gx = w.heap.size := ⟨_, rfl⟩
  rw [← hgx] at b1 ⊢
  clear hgx
  have c0 : w1.cell? ⟨gx, 0, none⟩ = some (.slice x.parts.A x.parts.l.length x.parts.c) := b1.cell 0
  have c1 : w1.cell? ⟨gx, 1, none⟩ = some (.slice x.chans.A x.chans.l.length x.chans.c) := b1.cell 1
  have c2 : w1.cell? ⟨gx, 2, none⟩ = some (.slice x.modes.A x.modes.l.length x.modes.c) := b1.cell 2
  have c3 : w1.cell? ⟨gx, 3, none⟩ = some (.slice x.pw.levels.A x.pw.levels.l.length x.pw.levels.c) := b1.cell 3
  have c4 : w1.cell? ⟨gx, 4, none⟩ = some (.slice x.pw.naps.A x.pw.naps.l.length x.pw.naps.c) := b1.cell 4
  have c5 : w1.cell? ⟨gx, 5, none⟩ = some (.int .i64 x.pw.sw) := b1.cell 5
  have c6 : w1.cell? ⟨gx, 6, none⟩ = some (.int .i64 x.pw.idle) := b1.cell 6
  have c7 : w1.cell? ⟨gx, 7, none⟩ = some (.int .i64 x.pw.change) := b1.cell 7
  have c8 : w1.cell? ⟨gx, 8, none⟩ = some (.int .i64 x.pw.quant) := b1.cell 8
  have c9 : w1.cell? ⟨gx, 9, none⟩ = some (.int .i64 x.pw.slow) := b1.cell 9
  have c10 : w1.cell? ⟨gx, 10, none⟩ = some (.int .i64 x.pw.ppm) := b1.cell 10
  have c11 : w1.cell? ⟨gx, 11, none⟩ = some (.slice x.shed.down.A x.shed.down.l.length x.shed.down.c) := b1.cell 11
  have c12 : w1.cell? ⟨gx, 12, none⟩ = some (.slice x.shed.up.A x.shed.up.l.length x.shed.up.c) := b1.cell 12
  have hl1 := b1.lt
  go_wp2_with fail
  refine (short_any (w := w1) (rdCf.keep hx hb)).mono ?_
  rintro e w2 ⟨bs, rfl, hsh, hb2⟩
  have b2 := b1.keep hb2
  have hB2 := hb.trans (hb2.mono hb.size)
  clear c0 c1 c2 c3 c4 c5 c6 c7 c8 c9 c10 c11 c12
  cases bs with
  | false =>
    clear hsh
    go_wp2_with fail
    refine (works_any _).mono ?_
    rintro e w3 ⟨rfl, hb3⟩
    go_wp2_with fail
    go_ret
    exact ⟨rfl, hB2.trans (hb3.mono hB2.size)⟩
  | true =>
    have HSH := Lib.hid (hsh rfl)
    clear hsh
    have c0 : w2.cell? ⟨gx, 0, none⟩ = some (.slice x.parts.A x.parts.l.length x.parts.c) := b2.cell 0
    have c1 : w2.cell? ⟨gx, 1, none⟩ = some (.slice x.chans.A x.chans.l.length x.chans.c) := b2.cell 1
    have c2 : w2.cell? ⟨gx, 2, none⟩ = some (.slice x.modes.A x.modes.l.length x.modes.c) := b2.cell 2
    have c3 : w2.cell? ⟨gx, 3, none⟩ = some (.slice x.pw.levels.A x.pw.levels.l.length x.pw.levels.c) := b2.cell 3
    have c4 : w2.cell? ⟨gx, 4, none⟩ = some (.slice x.pw.naps.A x.pw.naps.l.length x.pw.naps.c) := b2.cell 4
    have c5 : w2.cell? ⟨gx, 5, none⟩ = some (.int .i64 x.pw.sw) := b2.cell 5
    have c6 : w2.cell? ⟨gx, 6, none⟩ = some (.int .i64 x.pw.idle) := b2.cell 6
    have c7 : w2.cell? ⟨gx, 7, none⟩ = some (.int .i64 x.pw.change) := b2.cell 7
    have c8 : w2.cell? ⟨gx, 8, none⟩ = some (.int .i64 x.pw.quant) := b2.cell 8
    have c9 : w2.cell? ⟨gx, 9, none⟩ = some (.int .i64 x.pw.slow) := b2.cell 9
    have c10 : w2.cell? ⟨gx, 10, none⟩ = some (.int .i64 x.pw.ppm) := b2.cell 10
    have c11 : w2.cell? ⟨gx, 11, none⟩ = some (.slice x.shed.down.A x.shed.down.l.length x.shed.down.c) := b2.cell 11
    have c12 : w2.cell? ⟨gx, 12, none⟩ = some (.slice x.shed.up.A x.shed.up.l.length x.shed.up.c) := b2.cell 12
    have hl2 := b2.lt
    go_wp2_with fail
    refine (encode_any (rdCf.keep hx hB2) HSH.out).mono ?_
    rintro e w3 ⟨v, z, rfl, hz, hown, hb3⟩
    have HZ := Lib.hid hz
    have b3 := b2.keep hb3
    have hB3 := hB2.trans (hb3.mono hB2.size)
    clear hz c0 c1 c2 c3 c4 c5 c6 c7 c8 c9 c10 c11 c12
    have c0 : w3.cell? ⟨gx, 0, none⟩ = some (.slice x.parts.A x.parts.l.length x.parts.c) := b3.cell 0
    have c1 : w3.cell? ⟨gx, 1, none⟩ = some (.slice x.chans.A x.chans.l.length x.chans.c) := b3.cell 1
    have c2 : w3.cell? ⟨gx, 2, none⟩ = some (.slice x.modes.A x.modes.l.length x.modes.c) := b3.cell 2
    have c3 : w3.cell? ⟨gx, 3, none⟩ = some (.slice x.pw.levels.A x.pw.levels.l.length x.pw.levels.c) := b3.cell 3
    have c4 : w3.cell? ⟨gx, 4, none⟩ = some (.slice x.pw.naps.A x.pw.naps.l.length x.pw.naps.c) := b3.cell 4
    have c5 : w3.cell? ⟨gx, 5, none⟩ = some (.int .i64 x.pw.sw) := b3.cell 5
    have c6 : w3.cell? ⟨gx, 6, none⟩ = some (.int .i64 x.pw.idle) := b3.cell 6
    have c7 : w3.cell? ⟨gx, 7, none⟩ = some (.int .i64 x.pw.change) := b3.cell 7
    have c8 : w3.cell? ⟨gx, 8, none⟩ = some (.int .i64 x.pw.quant) := b3.cell 8
    have c9 : w3.cell? ⟨gx, 9, none⟩ = some (.int .i64 x.pw.slow) := b3.cell 9
    have c10 : w3.cell? ⟨gx, 10, none⟩ = some (.int .i64 x.pw.ppm) := b3.cell 10
    have c11 : w3.cell? ⟨gx, 11, none⟩ = some (.slice x.shed.down.A x.shed.down.l.length x.shed.down.c) := b3.cell 11
    have c12 : w3.cell? ⟨gx, 12, none⟩ = some (.slice x.shed.up.A x.shed.up.l.length x.shed.up.c) := b3.cell 12
    have hl3 := b3.lt
    go_wp2_with fail
    refine (refEncode_any x (rdCf.keep hx hB3) HSH.out).mono ?_
    rintro e w4 ⟨v', z', rfl, hz', hown', hb4⟩
    have hzz : z' = z := by rw [hz', HZ.out]
    subst hzz
    have hB4 := hB3.trans (hb4.mono hB3.size)
    obtain ⟨A, k, rfl, hs, -⟩ := SlB.of_own (own_below hown hb4)
    obtain ⟨A', k', rfl, hs', -⟩ := SlB.of_own hown'
    have hc1 := bytes_str hs
    have hc2 := bytes_str hs'
    clear hz' hown hown' hb4 c0 c1 c2 c3 c4 c5 c6 c7 c8 c9 c10 c11 c12
    generalize encOut x = l at hc1 hc2 hs hs' ⊢
    go_wp2_with fail
    refine (works_any _).mono ?_
    rintro e w5 ⟨rfl, hb5⟩
    go_wp2_with fail
    go_ret
    exact ⟨rfl, hB4.trans (hb5.mono hB4.size)⟩
end Go.Proofs.YtahjnonkhbpnpaaGreat
