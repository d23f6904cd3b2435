/- The plain law of DigestApart: unlike rows of events have unlike bytes. No program here. -/
import Derived.Test.YtjjmnkhlcgjfmaaEvAll
namespace Go.Proofs.Ytjjmnkhlcgjfmaa
theorem evB_cut {x y : Ev} (hx : x.ok) (hy : y.ok) {s t : List UInt8} (h : evB x ++ s = evB y ++ t) : x = y ∧ s = t := by
  obtain ⟨a, b, c, d, e, f⟩ := x
  obtain ⟨a', b', c', d', e', f'⟩ := y
  obtain ⟨h1, h2, h3, h4, h5, h6⟩ := hx
  obtain ⟨k1, k2, k3, k4, k5, k6⟩ := hy
  simp only [evB, List.append_assoc] at h h1 h2 h3 h4 h5 h6 k1 k2 k3 k4 k5 k6
  obtain ⟨e1, h⟩ := vint_cut h1 k1 h
  obtain ⟨e2, h⟩ := vint_cut h2 k2 h
  obtain ⟨e3, h⟩ := vint_cut h3 k3 h
  obtain ⟨e4, h⟩ := vint_cut h4 k4 h
  obtain ⟨e5, h⟩ := vint_cut h5 k5 h
  obtain ⟨e6, h⟩ := vint_cut h6 k6 h
  exact ⟨by rw [e1, e2, e3, e4, e5, e6], h⟩
theorem allB_inj {a b : List Ev} (ha : ∀ x ∈ a, x.ok) (hb : ∀ x ∈ b, x.ok) (h : allB a = allB b) : a = b := by
  induction a generalizing b with
  | nil =>
    cases b with
    | nil => rfl
    | cons y b =>
      have := congrArg List.length h
      have hy := evB_len y
      simp only [allB, List.flatMap_nil, List.flatMap_cons, List.length_nil, List.length_append] at this
      omega
  | cons x a ih =>
    cases b with
    | nil =>
      have := congrArg List.length h
      have hy := evB_len x
      simp only [allB, List.flatMap_nil, List.flatMap_cons, List.length_nil, List.length_append] at this
      omega
    | cons y b =>
      obtain ⟨h1, h2⟩ := evB_cut (ha x (by simp)) (hb y (by simp)) (s := allB a) (t := allB b) (by simpa [allB] using h)
      rw [h1, ih (fun z hz => ha z (by simp [hz])) (fun z hz => hb z (by simp [hz])) h2]
end Go.Proofs.Ytjjmnkhlcgjfmaa
