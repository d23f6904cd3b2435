/- How arguments are read: bytes, strings, unsigned numbers. -/
import Derived.Test.YtiglabknaldinaaLaw
namespace Go.Proofs.Ytiglabknaldinaa
open Go.ChangeShapes Go.WideShapes Go.ChangeAt Go.RowKit Go.Joins
section
variable {P : Program} {H : Type} {enc : TypeId × Value → H} {W : World}
theorem u8_of_wf {n : Int} (h : (Lit.int .u8 n).wf = true) : 0 ≤ n ∧ n < 256 := by
  have h1 : IntKind.u8.min = 0 := rfl
  have h2 : IntKind.u8.max = 255 := rfl
  simp only [Lit.wf, Bool.and_eq_true, decide_eq_true_eq, h1, h2] at h
  omega
theorem u16_of_wf {n : Int} (h : (Lit.int .u16 n).wf = true) : 0 ≤ n ∧ n < 65536 := by
  have h1 : IntKind.u16.min = 0 := rfl
  have h2 : IntKind.u16.max = 65535 := rfl
  simp only [Lit.wf, Bool.and_eq_true, decide_eq_true_eq, h1, h2] at h
  omega
theorem u32_of_wf {n : Int} (h : (Lit.int .u32 n).wf = true) : 0 ≤ n ∧ n < 4294967296 := by
  have h1 : IntKind.u32.min = 0 := rfl
  have h2 : IntKind.u32.max = 4294967295 := rfl
  simp only [Lit.wf, Bool.and_eq_true, decide_eq_true_eq, h1, h2] at h
  omega
theorem u64_of_wf {n : Int} (h : (Lit.int .u64 n).wf = true) : 0 ≤ n ∧ n < 18446744073709551616 := by
  have h1 : IntKind.u64.min = 0 := rfl
  have h2 : IntKind.u64.max = 18446744073709551615 := rfl
  simp only [Lit.wf, Bool.and_eq_true, decide_eq_true_eq, h1, h2] at h
  omega
section
variable {r : Reach} {base : Nat} {t : TypeId} {v : Value} {d : DataW H} {p : List MemPlace} (hv : Value.okWide P W r base t v) (h : DataW.Trod enc P W 0 (fun _ => true) true t v d p)
include hv h
theorem arg_u8 (ht : P.underlying t = some (.int .u8)) : ∃ n : Nat, v = .int .u8 n ∧ n < 256 := by
  obtain ⟨n, rfl, _, _, wn⟩ := open_int ht hv h
  obtain ⟨h1, h2⟩ := u8_of_wf wn
  exact ⟨n.toNat, by rw [Int.toNat_of_nonneg h1], by omega⟩
theorem arg_u16 (ht : P.underlying t = some (.int .u16)) : ∃ n : Nat, v = .int .u16 n ∧ n < 65536 := by
  obtain ⟨n, rfl, _, _, wn⟩ := open_int ht hv h
  obtain ⟨h1, h2⟩ := u16_of_wf wn
  exact ⟨n.toNat, by rw [Int.toNat_of_nonneg h1], by omega⟩
theorem arg_u32 (ht : P.underlying t = some (.int .u32)) : ∃ n : Nat, v = .int .u32 n ∧ n < 4294967296 := by
  obtain ⟨n, rfl, _, _, wn⟩ := open_int ht hv h
  obtain ⟨h1, h2⟩ := u32_of_wf wn
  exact ⟨n.toNat, by rw [Int.toNat_of_nonneg h1], by omega⟩
theorem arg_u64 (ht : P.underlying t = some (.int .u64)) : ∃ n : Nat, v = .int .u64 n ∧ n < 18446744073709551616 := by
  obtain ⟨n, rfl, _, _, wn⟩ := open_int ht hv h
  obtain ⟨h1, h2⟩ := u64_of_wf wn
  exact ⟨n.toNat, by rw [Int.toNat_of_nonneg h1], by omega⟩
theorem arg_str (ht : P.underlying t = some .string) : ∃ s : ByteArray, v = .string s ∧ s.size ≤ 9223372036854775807 := by
  obtain ⟨s, rfl, _, _, hs⟩ := Go.ChangeMaps.open_string ht hv h
  exact ⟨s, rfl, by simpa [maxLen] using hs⟩
end
theorem trod_SlB {t e : TypeId} (ht : P.underlying t = some (.slice e)) (he : P.underlying e = some (.int .u8)) (hC : P.cellsOf e = 1) {fuel : Nat} {v : Value} {x : DataW H × List MemPlace}
    (h : DataW.trod enc P W 0 (fun _ => true) true fuel t [v] = some x) : ∃ A n c l, v = .slice A n c ∧ SlB W A n c l := by
  rcases open_ints ht he hC h with ⟨hcs, _⟩ | ⟨a, len, cap, zs, hcs, _, hl, hm, hz, _, hcell, hwz⟩
  · cases hcs
    exact ⟨none, 0, 0, [], rfl, SlB.nil W⟩
  · cases hcs
    have hz' : zs.length = cap := by simpa using hz
    refine ⟨some a, len, cap, (zs.take len).map fun z => z.toNat.toUInt8, rfl, ⟨⟨by simp; omega, hl, hm, (fun e => by cases e), fun hn => ?_⟩, by simp; omega⟩⟩
    have h0 := hcell 0 (by omega)
    obtain ⟨b, o, spot⟩ := a
    have hspot : spot = none := by simpa [Addr.add] using World.cell?_spot h0
    subst hspot
    refine ⟨b, o, rfl, ?_, fun j u hu => ?_⟩
    · have := World.block_lt_of_cell? W _ h0
      simpa [Addr.add] using this
    · have hj : j < len := by
        have := (List.getElem?_eq_some_iff.1 hu).1
        simp at this
        omega
      have hc := hcell j (by omega)
      have hadd : (⟨b, o, none⟩ : Addr).add j = ⟨b, o + j, none⟩ := add_none b o j
      rw [hadd] at hc
      rw [hc, ← hu]
      have hw := u8_of_wf (hwz _ (List.getElem_mem (show j < zs.length by omega)))
      have hb : bv (zs[j]'(by omega)).toNat.toUInt8 = .int .u8 (zs[j]'(by omega)) := by
        have : ((zs[j]'(by omega)).toNat.toUInt8).toNat = (zs[j]'(by omega)).toNat := by
          show (UInt8.ofNat _).toNat = _
          rw [UInt8.toNat_ofNat']
          omega
        unfold bv
        rw [this, Int.toNat_of_nonneg hw.1]
      rw [List.map_map, List.getElem?_map, List.getElem?_take, if_pos hj, List.getElem?_eq_getElem (show j < zs.length by omega), List.getD, List.getElem?_eq_getElem (show j < zs.length by omega)]
      exact congrArg some hb.symm
theorem arg_SlB {r : Reach} {base : Nat} {t e : TypeId} (ht : P.underlying t = some (.slice e)) (he : P.underlying e = some (.int .u8)) (hC : P.cellsOf e = 1) {v : Value} {d : DataW H} {p : List MemPlace} (hv : Value.okWide P W r base t v)
    (h : DataW.Trod enc P W 0 (fun _ => true) true t v d p) : ∃ A n c l, v = .slice A n c ∧ SlB W A n c l := by
  obtain ⟨a, len, cap, rfl⟩ := okWide_slice ht hv
  obtain ⟨fuel, hf⟩ := h
  exact trod_SlB ht he hC (fuel := fuel) (by simpa [Value.cells] using hf)
end
end Go.Proofs.Ytiglabknaldinaa
