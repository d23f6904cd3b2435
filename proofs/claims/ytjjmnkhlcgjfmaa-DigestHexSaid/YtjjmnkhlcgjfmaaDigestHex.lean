/- The law DigestHex returns true whatever the input. -/
import Derived.Test.YtjjmnkhlcgjfmaaDigWorks
namespace Go.Proofs.Ytjjmnkhlcgjfmaa
open Go.RowKit

theorem dig_hexD : ∀ d : Fin 16, dig (hexD d.val) = (d.val : Int) := by decide +kernel
theorem digN_hexD (d : Nat) (h : d < 16) : digN (hexD d) = d := by unfold digN; rw [dig_hexD ⟨d, h⟩]; simp
theorem dig_nn (d : Nat) (h : d < 16) : decide (0 ≤ dig (hexD d)) = true := by rw [dig_hexD ⟨d, h⟩]; simp
theorem unhexR_hexS {x : Nat} (hx : x < 4294967296) : unhexR (hexS x) = (x, 0) := by
  have hm : ∀ y, y % 16 < 16 := fun y => Nat.mod_lt _ (by decide)
  have ha : allDig (hexS x) = true := by
    unfold allDig hexS
    simp only [List.all_cons, List.all_nil, dig_nn _ (hm _), Bool.and_self]
  have hv : val (hexS x) = x := by
    unfold val hexS
    simp only [List.foldl_cons, List.foldl_nil, digN_hexD _ (hm _)]
    omega
  unfold unhexR
  rw [if_pos ⟨rfl, ha⟩, hv]

set_option maxRecDepth 100000 in
theorem digestHex_law {w : World} (x : Nat) (hx : x < 4294967296) (s : ByteArray) :
    Calls Try.prog 3 #[.int .u32 (x : Int), .string s] w fun e w' => e = .returned (.bool true) ∧ Below w.heap.size w w' := by
  by_cases h1 : (100 : Int) < s.size
  · go_enter Try.func3, Try.ntmps3
    go_wp2_with fail
    refine (works_any _).mono ?_
    rintro e w2 ⟨rfl, hb2⟩
    go_wp2_with fail
    go_ret
    exact ⟨rfl, hb2⟩
  · have h1' : decide ((100 : Int) < s.size) = false := by simpa using h1
    have hsz : s.size ≤ 1000000 := by omega
    have HX := Lib.hid (unhexR_hexS hx)
    go_enter Try.func3, Try.ntmps3
    go_wp2_with fail
    refine (unhex_any s hsz).mono ?_
    rintro e w1 ⟨rfl, rfl⟩
    go_wp2_with fail
    refine (refUnhex_any s hsz).mono ?_
    rintro e w1 ⟨rfl, q, rfl⟩
    generalize unhexR s.data.toList = p
    obtain ⟨a, e⟩ := p
    go_wp2_with fail
    refine (hex_any hx).mono ?_
    rintro e1 w2 ⟨rfl, hb2⟩
    go_wp2_with fail
    refine (unhex_any _ (by show 8 ≤ 1000000; decide)).mono ?_
    rintro e2 w3 ⟨rfl, rfl⟩
    rw [show (⟨(hexS x).toArray⟩ : ByteArray).data.toList = hexS x from rfl, HX.out]
    go_wp2_with fail
    refine (hex_any hx).mono ?_
    rintro e1 w4 ⟨rfl, hb4⟩
    go_wp2_with fail
    refine (refHex_any hx).mono ?_
    rintro e1 w5 ⟨rfl, q5, rfl⟩
    go_wp2_with fail
    refine (works_any _).mono ?_
    rintro e1 w6 ⟨rfl, hb6⟩
    go_wp2_with fail
    go_ret
    have hA : Below w.heap.size w w2 := (below_drewN (Below.refl w.heap.size w) q).trans hb2
    have hB : Below w.heap.size w w4 := hA.trans (hb4.mono hA.size)
    exact ⟨rfl, (below_drewN hB q5).trans (hb6.mono hB.size)⟩
end Go.Proofs.Ytjjmnkhlcgjfmaa
