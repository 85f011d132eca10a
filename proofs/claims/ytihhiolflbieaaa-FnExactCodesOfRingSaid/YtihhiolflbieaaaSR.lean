/- Rings: when both functions hold a text for a ring. No conditions. -/
import Derived.Test.YtihhiolflbieaaaS
import Derived.Test.YtihhiolflbieaaaPx95
import Derived.Test.YtihhiolflbieaaaPx121
import Derived.Test.YtihhiolflbieaaaPx123
namespace Go.Proofs.Ytihhiolflbieaaa.SR
open Go.RowKit Go.Proofs.Ytihhiolflbieaaa.P Go.Proofs.Ytihhiolflbieaaa.B Go.Proofs.Ytihhiolflbieaaa.C Go.Proofs.Ytihhiolflbieaaa.L Go.Proofs.Ytihhiolflbieaaa.A Go.Proofs.Ytihhiolflbieaaa.O Go.Proofs.Ytihhiolflbieaaa.O2 Go.Proofs.Ytihhiolflbieaaa.O3 Go.Proofs.Ytihhiolflbieaaa.R Go.Proofs.Ytihhiolflbieaaa.RS Go.Proofs.Ytihhiolflbieaaa.S Go.Proofs.YtihhiolflbieaaaW.PrintWords Go.Proofs.YtihhiolflbieaaaW.PrintLast Go.Proofs.YtihhiolflbieaaaW.PrintMore
set_option linter.unusedVariables false
set_option linter.unusedSimpArgs false

/-- The table of the codes that a ring of digits meets. -/
def rtab (W D : Int) (s : ByteArray) : List Bool := tabl ((wins W.toNat (arnd W.toNat s)).map (nu D)) (cnt W D).toNat
/-- A text that is as long as there are codes, of the lock's digits, and meets each. -/
def ringB (W D : Int) (s : ByteArray) : Bool := decide ((s.size : Int) = cnt W D) && (isT D s && (rtab W D s).all id)

theorem riRing_loop (t : List Bool) (hl : t.length ≤ 2000000) : Ev (fun k => spec_riRing.l0 k t (t.length : Int) 0) (t.all id) := by
  have := ev_down (g := fun j k => spec_riRing.l0 k t (t.length : Int) (j : Int)) (R := fun j => (t.drop j).all id) t.length ?_ ?_
  · exact this
  · intro j hj ih
    have e : rdOf false t (j : Int) = t[j] := by unfold rdOf; rw [Int.toNat_natCast, List.getD_eq_getElem?_getD, List.getElem?_eq_getElem hj]; rfl
    show Ev _ ((t.drop j).all id)
    rw [drop_all id t j hj]
    refine Ev.succ ?_
    simp only [spec_riRing.l0, if_pos (show (j : Int) < (t.length : Int) by omega), if_pos (show (0 : Int) ≤ (j : Int) by omega), e, w64 (x := (j : Int) + 1) (by omega) (by omega), id]
    by_cases q : t[j] = true
    · simp only [q, if_true, Bool.true_and]; exact ih
    · rw [Bool.not_eq_true] at q; simp only [q, Bool.false_eq_true, if_false, Bool.false_and]; exact Ev.now _
  · refine Ev.succ ?_
    simp only [spec_riRing.l0, if_neg (show ¬ ((t.length : Nat) : Int) < (t.length : Int) by omega)]
    rw [List.drop_of_length_le (Nat.le_refl _)]
    exact Ev.now _

theorem riRing_ev {W D : Int} (h : RK W D) (s : ByteArray) : Ev (fun k => spec_riRing.f k W D s) (ringB W D s) := by
  have lk := h.1
  have cb := cnt_bd lk
  unfold spec_riRing.f ringB
  refine Ev.bind (whCount_ev lk) ?_
  by_cases hl : (s.size : Int) = cnt W D
  · rw [decide_eq_true hl, Bool.true_and]
    simp only [if_pos hl, riText_eq lk.2.2, Option.bind_some]
    have hc := h.2
    have bg := big lk
    have az := arnd_size (s := s) (w := W.toNat) (by omega)
    have wl := wins_len W.toNat (arnd W.toNat s)
    by_cases ht : isT D s = true
    · rw [ht, Bool.true_and]
      refine Ev.succ ?_
      simp only [spec_riRing.j0, Bool.not_true, Bool.false_eq_true, if_false]
      refine Ev.bind (riCodesAround_ev lk s (by omega) (by omega)) (Ev.bind (riSeen_ev lk _ (by omega) (wins_isC lk.1 (arnd_isT ht _))) ?_)
      exact riRing_loop _ (by rw [tabl_len]; omega)
    · rw [Bool.not_eq_true] at ht
      rw [ht, Bool.false_and]
      refine Ev.succ ?_
      simp only [spec_riRing.j0, Bool.not_false, if_true]
      exact Ev.now _
  · rw [decide_eq_false hl, Bool.false_and]
    simp only [if_neg hl]
    refine Ev.succ ?_
    simp only [spec_riRing.j0, if_true]
    exact Ev.now _

theorem all_len (t : List Bool) : decide ((t.filter id).length = t.length) = t.all id := by
  by_cases h : t.all id = true
  · rw [h]
    refine decide_eq_true ?_
    rw [List.all_eq_true] at h
    rw [List.filter_eq_self.mpr h]
  · rw [Bool.not_eq_true] at h
    rw [h]
    refine decide_eq_false fun q => ?_
    have := List.length_filter_eq_length_iff.mp q
    rw [← List.all_eq_true] at this
    rw [this] at h
    exact absurd h (by simp)

theorem isRing_ev (W D : Int) (s : ByteArray) : Ev (fun k => impl_isRing.f k W D s) (decide (RK W D) && ringB W D s) := by
  unfold impl_isRing.f
  refine Ev.bind (isRounded_ev W D) ?_
  by_cases h : RK W D
  · have lk := h.1
    have cb := cnt_bd lk
    rw [decide_eq_true h, Bool.true_and]
    simp only [if_true]
    refine Ev.bind (count_ev lk) ?_
    unfold ringB
    by_cases hl : (s.size : Int) = cnt W D
    · rw [decide_eq_true hl, Bool.true_and]
      simp only [if_pos hl]
      have hc := h.2
      have bg := big lk
      have az := arnd_size (s := s) (w := W.toNat) (by omega)
      have wl := wins_len W.toNat (arnd W.toNat s)
      refine Ev.bind (isText_ev W lk.2.2 s (by omega)) ?_
      by_cases ht : isT D s = true
      · rw [ht, Bool.true_and]
        simp only [if_true]
        refine Ev.bind (rounded_ev lk s (by omega) (by omega)) ?_
        unfold impl_sorted.f
        simp only [if_pos (show (wins W.toNat (arnd W.toNat s)).length ≤ 1000000000 by omega), Option.bind_some]
        refine Ev.bind (count_ev lk) ?_
        have sc := sorted_count lk _ (wins_isC lk.1 (arnd_isT ht W.toNat))
        have e : (((impl_sorted.val (wins W.toNat (arnd W.toNat s))).length : Int) == cnt W D) = (rtab W D s).all id := by
          rw [← all_len, sc]
          show decide ((((rtab W D s).filter id).length : Int) = cnt W D) = _
          rw [decide_eq_decide]
          have : (rtab W D s).length = (cnt W D).toNat := tabl_len _ _
          omega
        rw [e]
        exact Ev.now _
      · rw [Bool.not_eq_true] at ht
        rw [ht, Bool.false_and]
        simp only [Bool.false_eq_true, if_false]
        exact Ev.now _
    · rw [decide_eq_false hl, Bool.false_and]
      simp only [if_neg hl]
      exact Ev.now _
  · rw [decide_eq_false h, Bool.false_and]
    simp only [Bool.false_eq_true, if_false]
    exact Ev.now _
theorem ring_size {W D : Int} {s : ByteArray} (h : ringB W D s = true) : (s.size : Int) = cnt W D := by
  unfold ringB at h
  rw [Bool.and_eq_true, decide_eq_true_eq] at h
  exact h.1
theorem ring_isT {W D : Int} {s : ByteArray} (h : ringB W D s = true) : isT D s = true := by
  unfold ringB at h
  rw [Bool.and_eq_true, Bool.and_eq_true] at h
  exact h.2.1

end Go.Proofs.Ytihhiolflbieaaa.SR
