/- The document's Same on events. -/
import Derived.Test.YtjjmnkhlcgjfmaaEvAll
namespace Go.Proofs.Ytjjmnkhlcgjfmaa
open Go.RowKit
theorem drew2 (w : World) (a b : Nat) : (w.drewN a).drewN b = w.drewN (a + b) := by simp [World.drewN, Nat.add_assoc]
theorem ne_t {a b : Int} (h : ¬ a = b) : (a != b) = true := by simpa using h
theorem ne_f {a b : Int} (h : a = b) : (a != b) = false := by simpa using h
theorem ev_ext {x y : Ev} (h1 : x.a = y.a) (h2 : x.b = y.b) (h3 : x.c = y.c) (h4 : x.d = y.d) (h5 : x.e = y.e) (h6 : x.f = y.f) : x = y := by
  cases x; cases y; simp_all
theorem same_not {l1 l2 : List Ev} {k : Nat} (h : ¬ atE l1 k = atE l2 k) : decide (l1 = l2) = false := by
  simp only [decide_eq_false_iff_not]
  rintro rfl
  exact h rfl

set_option maxRecDepth 100000 in
set_option maxHeartbeats 4000000 in
theorem same_ev_any {w : World} {A : Option Addr} {n c : Nat} {l1 : List Ev} (h : SlE w A n c l1) {B : Option Addr} {m d : Nat} {l2 : List Ev} (h2 : SlE w B m d l2) :
    Calls Try.prog 15 #[.slice A n c, .slice B m d] w fun e w' => e = .returned (.bool (decide (l1 = l2))) ∧ ∃ q, w' = w.drewN q := by
  have hl1 := h.2.1
  have hl2 := h2.2.1
  have hn := h.len
  have hm := h2.len
  by_cases hnm : n = m
  · subst hnm
    have hT : Hid (l1.take n = l1) := List.take_of_length_le (by omega)
    have hT2 : Hid (l2.take n = l2) := List.take_of_length_le (by omega)
    go_enter Try.func15, Try.ntmps15
    go_wp2_with fail
    go_loopw [5] (fun i wr => ∃ k : Nat, k ≤ n ∧ i = .int .i64 k ∧ Hid (l1.take k = l2.take k) ∧ ∃ q, wr = w.drewN q) (fun i _ => n - (intOf i).toNat)
    case atStart => exact ⟨0, Nat.zero_le _, rfl, rfl, 0, rfl⟩
    case round =>
      obtain ⟨k, hk, rfl, HE, q, rfl⟩ := hrel
      by_cases hlt : k < n
      · obtain ⟨b, o, rfl, hb, c0, c1, c2, c3, c4, c5⟩ := h.at_ hlt
        obtain ⟨b', o', rfl, hb', d0, d1, d2, d3, d4, d5⟩ := h2.at_ hlt
        have HS : Hid (l1.take (k + 1) = l1.take k ++ [atE l1 k]) := take_snocE l1 k (by omega)
        have HS2 : Hid (l2.take (k + 1) = l2.take k ++ [atE l2 k]) := take_snocE l2 k (by omega)
        have HN : Hid (¬ atE l1 k = atE l2 k → decide (l1 = l2) = false) := same_not
        have HX : Hid ((atE l1 k).a = (atE l2 k).a → (atE l1 k).b = (atE l2 k).b → (atE l1 k).c = (atE l2 k).c → (atE l1 k).d = (atE l2 k).d → (atE l1 k).e = (atE l2 k).e → (atE l1 k).f = (atE l2 k).f → atE l1 k = atE l2 k) := fun a b c d e f => ev_ext a b c d e f
        generalize atE l1 k = x at c0 c1 c2 c3 c4 c5 HS HN HX
        generalize atE l2 k = y at d0 d1 d2 d3 d4 d5 HS2 HN HX
        by_cases ha : x.a = y.a
        · have ha' := ne_f ha
          have HA := Lib.hid ha
          by_cases hbb : x.b = y.b
          · have hb2' := ne_f hbb
            have HB := Lib.hid hbb
            by_cases hcc : x.c = y.c
            · have hc' := ne_f hcc
              have HC := Lib.hid hcc
              by_cases hdd : x.d = y.d
              · have hd' := ne_f hdd
                have HD := Lib.hid hdd
                by_cases hee : x.e = y.e
                · have he' := ne_f hee
                  have HEE := Lib.hid hee
                  by_cases hff : x.f = y.f
                  · have hf' := ne_f hff
                    have HF := HX.out ha hbb hcc hdd hee hff
                    have HG := Lib.hid HF
                    clear ha hbb hcc hdd hee hff HF
                    go_wp2_with fail
                    refine wp_region_quiet_lit (by kernel_rfl) (by kernel_rfl) ?_
                    simp only [List.append_eq, List.cons_append, List.nil_append, List.append]
                    repeat (go_big_quiet_step (fail))
                    refine wpQuiet_nil ?_
                    intro _ hw'
                    obtain ⟨nq, hw''⟩ := hw'
                    subst hw''
                    go_wp2_with fail
                    exact ⟨⟨k + 1, by omega, by go_num, by unfold Hid; rw [HS.out, HS2.out, HE.out, HG.out], _, rfl⟩, by simp [intOf]; omega⟩
                  · have hf' := ne_t hff
                    have HG := Lib.hid (HN.out (fun e => hff (by rw [e])))
                    clear ha hbb hcc hdd hee hff
                    go_wp2_with fail
                    refine wp_region_quiet_lit (by kernel_rfl) (by kernel_rfl) ?_
                    simp only [List.append_eq, List.cons_append, List.nil_append, List.append]
                    repeat (go_big_quiet_step (fail))
                    refine wpQuiet_nil ?_
                    intro _ hw'
                    obtain ⟨nq, hw''⟩ := hw'
                    subst hw''
                    go_wp2_with fail
                    go_ret
                    exact ⟨by rw [HG.out]; rfl, _, drew2 w q nq⟩
                · have he' := ne_t hee
                  have HG := Lib.hid (HN.out (fun e => hee (by rw [e])))
                  clear ha hbb hcc hdd hee
                  go_wp2_with fail
                  refine wp_region_quiet_lit (by kernel_rfl) (by kernel_rfl) ?_
                  simp only [List.append_eq, List.cons_append, List.nil_append, List.append]
                  repeat (go_big_quiet_step (fail))
                  refine wpQuiet_nil ?_
                  intro _ hw'
                  obtain ⟨nq, hw''⟩ := hw'
                  subst hw''
                  go_wp2_with fail
                  go_ret
                  exact ⟨by rw [HG.out]; rfl, _, drew2 w q nq⟩
              · have hd' := ne_t hdd
                have HG := Lib.hid (HN.out (fun e => hdd (by rw [e])))
                clear ha hbb hcc hdd
                go_wp2_with fail
                refine wp_region_quiet_lit (by kernel_rfl) (by kernel_rfl) ?_
                simp only [List.append_eq, List.cons_append, List.nil_append, List.append]
                repeat (go_big_quiet_step (fail))
                refine wpQuiet_nil ?_
                intro _ hw'
                obtain ⟨nq, hw''⟩ := hw'
                subst hw''
                go_wp2_with fail
                go_ret
                exact ⟨by rw [HG.out]; rfl, _, drew2 w q nq⟩
            · have hc' := ne_t hcc
              have HG := Lib.hid (HN.out (fun e => hcc (by rw [e])))
              clear ha hbb hcc
              go_wp2_with fail
              refine wp_region_quiet_lit (by kernel_rfl) (by kernel_rfl) ?_
              simp only [List.append_eq, List.cons_append, List.nil_append, List.append]
              repeat (go_big_quiet_step (fail))
              refine wpQuiet_nil ?_
              intro _ hw'
              obtain ⟨nq, hw''⟩ := hw'
              subst hw''
              go_wp2_with fail
              go_ret
              exact ⟨by rw [HG.out]; rfl, _, drew2 w q nq⟩
          · have hb2' := ne_t hbb
            have HG := Lib.hid (HN.out (fun e => hbb (by rw [e])))
            clear ha hbb
            go_wp2_with fail
            refine wp_region_quiet_lit (by kernel_rfl) (by kernel_rfl) ?_
            simp only [List.append_eq, List.cons_append, List.nil_append, List.append]
            repeat (go_big_quiet_step (fail))
            refine wpQuiet_nil ?_
            intro _ hw'
            obtain ⟨nq, hw''⟩ := hw'
            subst hw''
            go_wp2_with fail
            go_ret
            exact ⟨by rw [HG.out]; rfl, _, drew2 w q nq⟩
        · have ha' := ne_t ha
          have HG := Lib.hid (HN.out (fun e => ha (by rw [e])))
          clear ha
          go_wp2_with fail
          refine wp_region_quiet_lit (by kernel_rfl) (by kernel_rfl) ?_
          simp only [List.append_eq, List.cons_append, List.nil_append, List.append]
          repeat (go_big_quiet_step (fail))
          refine wpQuiet_nil ?_
          intro _ hw'
          obtain ⟨nq, hw''⟩ := hw'
          subst hw''
          go_wp2_with fail
          go_ret
          exact ⟨by rw [HG.out]; rfl, _, drew2 w q nq⟩
      · obtain rfl : k = n := by omega
        have HG : Hid (decide (l1 = l2) = true) := by
          unfold Hid
          rw [← hT.out, ← hT2.out, HE.out]
          simp
        clear hT hT2 HE
        go_wp2_with fail
        go_ret
        exact ⟨by rw [HG.out]; rfl, _, rfl⟩
  · have hnm' : ((n : Int) != (m : Int)) = true := by simp; omega
    have HG : Hid (decide (l1 = l2) = false) := by
      unfold Hid
      simp only [decide_eq_false_iff_not]
      rintro rfl
      omega
    clear hnm
    go_enter Try.func15, Try.ntmps15
    go_wp2_with fail
    go_ret
    exact ⟨by rw [HG.out]; rfl, 0, rfl⟩
end Go.Proofs.Ytjjmnkhlcgjfmaa
