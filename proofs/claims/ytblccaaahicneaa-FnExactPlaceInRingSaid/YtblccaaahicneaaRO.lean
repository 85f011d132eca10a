/- Texts that open codes: what the functions answer. No conditions. -/
import Derived.Test.YtblccaaahicneaaR
import Derived.Test.YtblccaaahicneaaPx34
import Derived.Test.YtblccaaahicneaaPx45
import Derived.Test.YtblccaaahicneaaPx48
import Derived.Test.YtblccaaahicneaaPx60
import Derived.Test.YtblccaaahicneaaPx61
namespace Go.Proofs.Ytblccaaahicneaa.RO
open Go.RowKit Go.Proofs.Ytblccaaahicneaa.P Go.Proofs.Ytblccaaahicneaa.B Go.Proofs.Ytblccaaahicneaa.C Go.Proofs.Ytblccaaahicneaa.L Go.Proofs.Ytblccaaahicneaa.A Go.Proofs.Ytblccaaahicneaa.O Go.Proofs.Ytblccaaahicneaa.O2 Go.Proofs.Ytblccaaahicneaa.O3 Go.Proofs.Ytblccaaahicneaa.R Go.Proofs.YtblccaaahicneaaW.PrintWords Go.Proofs.YtblccaaahicneaaW.PrintLast Go.Proofs.YtblccaaahicneaaW.PrintMore
set_option linter.unusedVariables false
set_option linter.unusedSimpArgs false

/-- A lock of rings, and a text of its digits. -/
def opB (W D : Int) (s : ByteArray) : Bool := decide (RK W D ∧ s.size ≤ 1500) && isT D s
theorem opB_iff {W D : Int} {s : ByteArray} : opB W D s = true ↔ RK W D ∧ s.size ≤ 1500 ∧ isT D s = true := by
  unfold opB; rw [Bool.and_eq_true, decide_eq_true_eq]; exact ⟨fun h => ⟨h.1.1, h.1.2, h.2⟩, fun h => ⟨⟨h.1, h.2.1⟩, h.2.2⟩⟩
theorem riAsked_ev (W D : Int) (s : ByteArray) : Ev (fun k => spec_riAsked.f k W D s) (opB W D s) := by
  unfold spec_riAsked.f
  refine Ev.bind (riGood_ev W D) ?_
  by_cases h : RK W D
  · simp only [decide_eq_true h, if_true]
    by_cases hs : (s.size : Int) ≤ 1500
    · simp only [if_pos hs, riText_eq h.1.2.2, Option.bind_some]
      rw [show opB W D s = isT D s by unfold opB; rw [decide_eq_true ⟨h, by omega⟩, Bool.true_and]]
      exact Ev.now _
    · simp only [if_neg hs]
      rw [show opB W D s = false by unfold opB; rw [decide_eq_false (fun q => hs (by omega)), Bool.false_and]]
      exact Ev.now _
  · simp only [decide_eq_false h, Bool.false_eq_true, if_false]
    rw [show opB W D s = false by unfold opB; rw [decide_eq_false (fun q => h q.1), Bool.false_and]]
    exact Ev.now _
theorem isOpening_ev (W D : Int) (s : ByteArray) : Ev (fun k => impl_isOpeningText.f k W D s) (opB W D s) := by
  unfold impl_isOpeningText.f
  refine Ev.bind (isRounded_ev W D) ?_
  by_cases h : RK W D
  · simp only [decide_eq_true h, if_true]
    by_cases hs : (s.size : Int) ≤ 1500
    · simp only [if_pos hs]
      rw [show opB W D s = isT D s by unfold opB; rw [decide_eq_true ⟨h, by omega⟩, Bool.true_and]]
      exact Ev.bind (isText_ev W h.1.2.2 s (by omega)) (Ev.now _)
    · simp only [if_neg hs]
      rw [show opB W D s = false by unfold opB; rw [decide_eq_false (fun q => hs (by omega)), Bool.false_and]]
      exact Ev.now _
  · simp only [decide_eq_false h, Bool.false_eq_true, if_false]
    rw [show opB W D s = false by unfold opB; rw [decide_eq_false (fun q => h q.1), Bool.false_and]]
    exact Ev.now _

theorem has1 (W D : Int) (s : ByteArray) (hs : s.size ≤ 140737488351232) : Ev (fun k => impl_has.f k W D [s]) (decide (LK W D) && isC W D s) := by
  have := has_ev W D [s] (by simp) (by intro x hx; rw [List.mem_singleton.mp hx]; exact hs)
  simpa using this

/-! ### StepsToOpen -/
theorem steps_loop {W D : Int} (h : RK W D) {s c : ByteArray} (hs : s.size ≤ 1500) (hc : isC W D c = true) :
    Ev (fun k => spec_StepsToOpen.l0 k c (wins W.toNat s) ((wins W.toNat s).length : Int) 0 W D) (if Lib.index s.data.toList c.data.toList < 0 then (0, false) else (Lib.index s.data.toList c.data.toList + W, true)) := by
  have hW := h.1.1; have hW2 := h.1.2.1
  have z := isC_size hc
  have hcs : c.size = W.toNat := by omega
  have hl := wins_len W.toNat s
  have rg : ∀ j, j < s.size + 1 - W.toNat → rdOf ByteArray.empty (wins W.toNat s) (j : Int) = s.extract j (j + W.toNat) := by
    intro j hj
    unfold rdOf
    rw [Int.toNat_natCast, List.getD_eq_getElem?_getD, List.getElem?_eq_getElem (by omega), wins_get]; rfl
  have miss : ∀ j, j < s.size + 1 - W.toNat → Lib.occAt s.data.toList c.data.toList j = false → ∀ R, Ev (fun k => spec_StepsToOpen.l0 k c (wins W.toNat s) ((wins W.toNat s).length : Int) ((j + 1 : Nat) : Int) W D) R → Ev (fun k => spec_StepsToOpen.l0 k c (wins W.toNat s) ((wins W.toNat s).length : Int) (j : Int) W D) R := by
    intro j hj ho R ih
    refine Ev.succ ?_
    have ne : ¬ (s.extract j (j + W.toNat)).toList = c.toList := fun e => by
      have := (win_occ hcs (by omega)).mp (toList_inj.mp e)
      rw [ho] at this; exact absurd this (by simp)
    simp only [spec_StepsToOpen.l0, hl, if_pos (show (j : Int) < ((s.size + 1 - W.toNat : Nat) : Int) by omega), if_pos (show (0 : Int) ≤ (j : Int) by omega), rg j hj, if_neg ne, w64 (x := (j : Int) + 1) (by omega) (by omega)]
    rw [hl] at ih
    exact ih
  rcases Lib.index_spec s.data.toList c.data.toList with ⟨e, hno⟩ | ⟨i, e, hi, ho, hno⟩
  · rw [e, if_pos (by omega)]
    refine ev_loop (g := fun j k => spec_StepsToOpen.l0 k c (wins W.toNat s) ((wins W.toNat s).length : Int) (j : Int) W D) (s.size + 1 - W.toNat) ?_ ?_
    · intro j hj ih
      exact miss j hj (hno j (by rw [← size_len]; omega)) _ ih
    · refine Ev.succ ?_
      simp only [spec_StepsToOpen.l0, hl, if_neg (show ¬ ((s.size + 1 - W.toNat : Nat) : Int) < ((s.size + 1 - W.toNat : Nat) : Int) by omega)]
      exact Ev.now _
  · have room := occ_room ho (by omega)
    rw [e, if_neg (by omega)]
    refine ev_loop (g := fun j k => spec_StepsToOpen.l0 k c (wins W.toNat s) ((wins W.toNat s).length : Int) (j : Int) W D) i ?_ ?_
    · intro j hj ih
      exact miss j (by omega) (hno j hj) _ ih
    · refine Ev.succ ?_
      have eq : (s.extract i (i + W.toNat)).toList = c.toList := toList_inj.mpr ((win_occ hcs (by omega)).mpr ho)
      simp only [spec_StepsToOpen.l0, hl, if_pos (show (i : Int) < ((s.size + 1 - W.toNat : Nat) : Int) by omega), if_pos (show (0 : Int) ≤ (i : Int) by omega), rg i (by omega), if_pos eq, w64 (x := (i : Int) + W) (by omega) (by omega)]
      exact Ev.now _

theorem steps_both (W D : Int) (s c : ByteArray) (hs : s.size ≤ 140737488351232) (hc : c.size ≤ 140737488351232) : ∃ r, Ev (fun k => spec_StepsToOpen.f k W D s c) r ∧ Ev (fun k => impl_StepsToOpen.f k W D s c) r := by
  unfold spec_StepsToOpen.f impl_StepsToOpen.f
  by_cases h : opB W D s = true
  · have h' := opB_iff.mp h
    by_cases g : isC W D c = true
    · refine ⟨if Lib.index s.data.toList c.data.toList < 0 then (0, false) else (Lib.index s.data.toList c.data.toList + W, true), Ev.bind (riAsked_ev W D s) ?_, Ev.bind (isOpening_ev W D s) ?_⟩
      · simp only [h, if_true]
        refine Ev.bind (whCode_ev h'.1.1.2.2 c hc) (Ev.succ ?_)
        simp only [g, Bool.not_true, spec_StepsToOpen.j0, Bool.false_eq_true, if_false]
        exact Ev.bind (riCodesOpen_ev ⟨h'.1.1.1, h'.1.1.2.1⟩ s (by omega)) (steps_loop h'.1 h'.2.1 g)
      · simp only [h, if_true]
        refine Ev.bind (has1 W D c hc) (Ev.succ ?_)
        simp only [decide_eq_true h'.1.1, g, Bool.and_self, Bool.not_true, impl_StepsToOpen.j0, Bool.false_eq_true, if_false, strings_Index.f, if_pos (show s.size < 4294967281 by omega), Option.bind_some]
        have b1 := Lib.index_ge s.data.toList c.data.toList
        have b2 := Lib.index_le s.data.toList c.data.toList
        rw [← size_len] at b2
        have b3 := h'.1.1.1; have b4 := h'.1.1.2.1
        rw [w64 (x := Lib.index s.data.toList c.data.toList + W) (by omega) (by omega)]
        split <;> exact Ev.now _
    · rw [Bool.not_eq_true] at g
      refine ⟨(0, false), Ev.bind (riAsked_ev W D s) ?_, Ev.bind (isOpening_ev W D s) ?_⟩
      · simp only [h, if_true]
        refine Ev.bind (whCode_ev h'.1.1.2.2 c hc) (Ev.succ ?_)
        simp only [g, Bool.not_false, spec_StepsToOpen.j0, if_true]
        exact Ev.now _
      · simp only [h, if_true]
        refine Ev.bind (has1 W D c hc) (Ev.succ ?_)
        simp only [g, Bool.and_false, Bool.not_false, impl_StepsToOpen.j0, if_true]
        exact Ev.now _
  · rw [Bool.not_eq_true] at h
    refine ⟨(0, false), Ev.bind (riAsked_ev W D s) ?_, Ev.bind (isOpening_ev W D s) ?_⟩
    · simp only [h, Bool.false_eq_true, if_false]
      refine Ev.succ ?_
      simp only [spec_StepsToOpen.j0, if_true]; exact Ev.now _
    · simp only [h, Bool.false_eq_true, if_false]
      refine Ev.succ ?_
      simp only [impl_StepsToOpen.j0, if_true]; exact Ev.now _

end Go.Proofs.Ytblccaaahicneaa.RO
