/- The law GroundStreams returns true whatever the input. -/
import Derived.Test.YtolohbgfhledoaaRtTake
import Derived.Test.YtolohbgfhledoaaGrBack
import Derived.Test.YtolohbgfhledoaaGrStream
import Derived.Test.YtolohbgfhledoaaArgs2
namespace Go.Proofs.Ytolohbgfhledoaa
open Go.RowKit
set_option maxHeartbeats 3200000 in
set_option maxRecDepth 100000 in
theorem groundStreams_law {w : World} {A : Option Addr} {n c : Nat} {b : List UInt8} (hb : SlB w A n c b) :
    Calls Try.prog 5 #[.slice A n c] w fun e w' => e = .returned (.bool true) ∧ Below w.heap.size w w' := by
  have hbl := hb.2
  go_enter Try.func5, Try.ntmps5
  by_cases hn : n ≤ 600
  · have hn' : ¬ (600 : Int) < (n : Int) := by omega
    go_wp2_with fail
    refine (stream_any hb (by omega)).mono ?_
    rintro e w1 ⟨v, L, z, rfl, hown, hch, hz, hLn, hend, hb1⟩
    obtain ⟨V, vc, rfl, hV, -⟩ := SlG.of_own hown (fun _ _ => rfl) rfl
    clear hown
    go_wp2_with fail
    go_loopw [5, 6] (fun at_ i wr => ∃ (a k : Nat), k ≤ L.length ∧ a ≤ n ∧ at_ = .int .i64 (a : Int) ∧ i = .int .i64 (k : Int) ∧ Chain b a (L.drop k) z ∧ Below w.heap.size w wr ∧ SlG wr V L.length vc 4 pkC L) (fun _ i _ => L.length - (intOf i).toNat)
    case atStart => exact ⟨0, 0, by omega, by omega, rfl, rfl, hch, hb1, hV⟩
    case round =>
      clear hV hb1 hch
      obtain ⟨a, k, hk, ha, rfl, rfl, hch, hbw, hV⟩ := hrel
      have hcut := fun w => run_cut_l u_bytes size1' w A n c a ha
      have hsc := (hb.keep hbw).cut (lo := a) (hi := n) ha (Nat.le_refl _)
      rw [show (b.drop a).take (n - a) = b.drop a from List.take_of_length_le (by rw [List.length_drop]; omega)] at hsc
      by_cases hlt : k < L.length
      · have hlt' : (k : Int) < (L.length : Int) := by omega
        have hdk : L.drop k = atD pk0 L k :: L.drop (k + 1) := by
          rw [List.drop_eq_getElem_cons hlt]
          simp [atD, hlt]
        rw [hdk] at hch
        obtain ⟨hc1, hc2, hc3⟩ := hch
        have hrm := take_room (b := b) (a := a) (by omega) hc1
        obtain ⟨pb, po, rfl, hpb, hpc⟩ := hV.at_ pk0 hlt
        have p0 : wr.cell? ⟨pb, po + k * 4, none⟩ = some (.int .i64 (atD pk0 L k).q) := hpc 0 _ rfl
        have p1 : wr.cell? ⟨pb, po + k * 4 + 1, none⟩ = some (.int .i64 (atD pk0 L k).k) := hpc 1 _ rfl
        have p2 : wr.cell? ⟨pb, po + k * 4 + 2, none⟩ = some (.int .i64 (atD pk0 L k).f) := hpc 2 _ rfl
        have p3 : wr.cell? ⟨pb, po + k * 4 + 3, none⟩ = some (.int .i64 (atD pk0 L k).v) := hpc 3 _ rfl
        clear hpc hdk
        generalize atD pk0 L k = p at p0 p1 p2 p3 hc2
        obtain ⟨q, kk, f, vv⟩ := p
        simp only at p0 p1 p2 p3
        go_wp2_with fail
        refine (takeR_any hsc (by omega)).mono ?_
        rintro e w2 ⟨rfl, hb2⟩
        generalize takeP (b.drop a) = T at hc1 hc2 hc3 hrm ⊢
        obtain ⟨T1, tn, te⟩ := T
        simp only at hc1 hc2 hc3 hrm
        subst hc1 hc2
        simp only [Pk.val]
        have hB2 := hbw.trans (hb2.mono hbw.size)
        have b7 := Blk.new w2 23 #[.int .i64 q, .int .i64 kk, .int .i64 f, .int .i64 vv]
        have hb7 := (Below.refl w2.heap.size w2).alloc (Nat.le_refl _) (.cells #[.int .i64 q, .int .i64 kk, .int .i64 f, .int .i64 vv] 23)
        have hz2 := hb2.size
        go_upto_region 9 with fail
        generalize w2.alloc (.cells #[.int .i64 q, .int .i64 kk, .int .i64 f, .int .i64 vv] 23) = w3 at b7 hb7 ⊢
        have hb3 := hb2.trans (hb7.mono hb2.size)
        have hB3 := hB2.trans (hb7.mono hB2.size)
        have hpb2 : pb < w2.heap.size := by omega
        generalize w2.heap.size = g7 at b7 hpb2 ⊢
        obtain ⟨hcc, -⟩ := bcell hb3
        have x0 := (hcc _ _ hpb).trans p0
        have x1 := (hcc _ _ hpb).trans p1
        have x2 := (hcc _ _ hpb).trans p2
        have x3 := (hcc _ _ hpb).trans p3
        have y0 : w3.cell? ⟨g7, 0, none⟩ = some (.int .i64 q) := b7.cell 0
        have y1 : w3.cell? ⟨g7, 1, none⟩ = some (.int .i64 kk) := b7.cell 1
        have y2 : w3.cell? ⟨g7, 2, none⟩ = some (.int .i64 f) := b7.cell 2
        have y3 : w3.cell? ⟨g7, 3, none⟩ = some (.int .i64 vv) := b7.cell 3
        have hl7 := b7.lt
        have hpb3 : pb < w3.heap.size := by omega
        have hV3 := hV.keep hb3
        clear hcc p0 p1 p2 p3 hb7 hb2 hB2 hpb hpb2 hsc hcut hV hbw hz2
        clear w2
        refine wp_region_fen (fun _ => False) [(7, 0)] (by kernel_rfl) (by kernel_rfl) ?_
        simp only [wpSegsF, List.take, List.drop]
        repeat (go_big_quiet_step (fail))
        refine wpQuiet_nil (wpHeadF_want rfl (fun K' hK' => ?_))
        go_wp2_with fail
        refine (lawBack_any (p := ⟨q, kk, f, vv⟩)).mono ?_
        rintro e w4 ⟨rfl, hb4⟩
        replace hb4 : Below w3.heap.size w3 w4 := (Below.drew (Below.refl _ w3)).trans hb4
        refine hK' _ _ rfl (fr_graft (Fr.of_below hb4 _)) ?_
        clear hK' K'
        simp only [Pk.val]
        try simp only [wpSegsF]
        repeat (go_big_quiet_step (fail))
        refine wpQuiet_nil ?_
        have hV4 := hV3.keep hb4
        have hB4 := hB3.trans (hb4.mono hB3.size)
        clear x0 x1 x2 x3 y0 y1 y2 y3 hV3 hb4 hb3 hB3
        go_wp2_with fail
        exact ⟨⟨a + tn, k + 1, by omega, by omega, by go_num, by go_num, hc3, hB4, hV4⟩, by simp [intOf]; omega⟩
      · obtain rfl : k = L.length := by omega
        rw [List.drop_length] at hch
        have hch : a = z := hch
        subst hch
        clear hlt hk
        go_wp2_with fail
        refine (takeR_any hsc (by omega)).mono ?_
        rintro e w2 ⟨rfl, hb2⟩
        generalize takeP (b.drop a) = T at hend ⊢
        obtain ⟨⟨q, kk, f, vv⟩, tn, te⟩ := T
        simp only at hend
        simp only [Pk.val]
        have hte : (te != 0) = true := by simpa using hend
        have hB2 := hbw.trans (hb2.mono hbw.size)
        have hb7 := (Below.refl w2.heap.size w2).alloc (Nat.le_refl _) (.cells #[.int .i64 q, .int .i64 kk, .int .i64 f, .int .i64 vv] 23)
        go_upto_region 13 with fail
        generalize w2.alloc (.cells #[.int .i64 q, .int .i64 kk, .int .i64 f, .int .i64 vv] 23) = w3 at hb7 ⊢
        have hB3 := hB2.trans (hb7.mono hB2.size)
        go_wp2_with fail
        refine (works_any _).mono ?_
        rintro e w4 ⟨rfl, hb4⟩
        go_wp2_with fail
        go_ret
        exact ⟨rfl, hB3.trans (hb4.mono hB3.size)⟩
  · have hn' : (600 : Int) < (n : Int) := by omega
    go_wp2_with fail
    refine (works_any _).mono ?_
    rintro e w2 ⟨rfl, hb2⟩
    go_wp2_with fail
    go_ret
    exact ⟨rfl, hb2⟩
end Go.Proofs.Ytolohbgfhledoaa
