/- The plain statement behind the law FnExactPlaceInRing: whatever the input, the law's Lean function answers true. Conditions: none but the sizes that the row gives. -/
import Derived.Test.YtblccaaahicneaaLR
import Derived.Test.YtblccaaahicneaaRO
import Derived.Test.YtblccaaahicneaaPx1
import Derived.Test.YtblccaaahicneaaPx60
import Derived.Test.YtblccaaahicneaaPx71
import Derived.Test.YtblccaaahicneaaPx72
import Derived.Test.YtblccaaahicneaaPx73
namespace Go.Proofs.Ytblccaaahicneaa.Pure
open Go.RowKit Go.Proofs.Ytblccaaahicneaa.P Go.Proofs.Ytblccaaahicneaa.B Go.Proofs.Ytblccaaahicneaa.C Go.Proofs.Ytblccaaahicneaa.L Go.Proofs.Ytblccaaahicneaa.A Go.Proofs.Ytblccaaahicneaa.O Go.Proofs.Ytblccaaahicneaa.O2 Go.Proofs.Ytblccaaahicneaa.R Go.Proofs.Ytblccaaahicneaa.RS Go.Proofs.Ytblccaaahicneaa.RO Go.Proofs.Ytblccaaahicneaa.S Go.Proofs.Ytblccaaahicneaa.LR Go.Proofs.YtblccaaahicneaaW.PrintWords Go.Proofs.YtblccaaahicneaaW.PrintLast Go.Proofs.YtblccaaahicneaaW.PrintMore
set_option linter.unusedVariables false
set_option linter.unusedSimpArgs false

theorem place_loop {W D : Int} (h : RK W D) {s c : ByteArray} (hs : s.size ≤ 1500) (hT : isT D s = true) (hc : isC W D c = true) (hm : c ∈ wins W.toNat s) :
    0 ≤ Lib.index s.data.toList c.data.toList ∧ Ev (fun k => spec_PlaceInRing.l0 k c (wins W.toNat s) ((wins W.toNat s).length : Int) 0) (Lib.index s.data.toList c.data.toList, true) := by
  have hW := h.1.1; have hW2 := h.1.2.1
  have z := isC_size hc
  have hcs : c.size = W.toNat := by omega
  have hl := wins_len W.toNat s
  have rg : ∀ j, j < s.size + 1 - W.toNat → rdOf ByteArray.empty (wins W.toNat s) (j : Int) = s.extract j (j + W.toNat) := by
    intro j hj
    unfold rdOf
    rw [Int.toNat_natCast, List.getD_eq_getElem?_getD, List.getElem?_eq_getElem (by omega), wins_get]; rfl
  have hm' := hm
  unfold wins at hm'
  obtain ⟨k0, hk0, e0⟩ := List.mem_map.mp hm'
  have hk0' := List.mem_range.mp hk0
  have ho0 := (win_occ hcs (by omega)).mp e0
  rcases Lib.index_spec s.data.toList c.data.toList with ⟨e, hno⟩ | ⟨i, e, hi, ho, hno⟩
  · have := hno k0 (by rw [← size_len]; omega)
    rw [ho0] at this; exact absurd this (by simp)
  · have room := occ_room ho (by omega)
    refine ⟨by omega, ?_⟩
    rw [e]
    refine ev_loop (g := fun j k => spec_PlaceInRing.l0 k c (wins W.toNat s) ((wins W.toNat s).length : Int) (j : Int)) i ?_ ?_
    · intro j hj ih
      refine Ev.succ ?_
      have ne : ¬ (s.extract j (j + W.toNat)).toList = c.toList := fun e => by
        have := (win_occ hcs (by omega)).mp (toList_inj.mp e)
        rw [hno j hj] at this; exact absurd this (by simp)
      simp only [spec_PlaceInRing.l0, hl, if_pos (show (j : Int) < ((s.size + 1 - W.toNat : Nat) : Int) by omega), if_pos (show (0 : Int) ≤ (j : Int) by omega), rg j (by omega), if_neg ne, w64 (x := (j : Int) + 1) (by omega) (by omega)]
      rw [hl] at ih
      exact ih
    · refine Ev.succ ?_
      have eq : (s.extract i (i + W.toNat)).toList = c.toList := toList_inj.mpr ((win_occ hcs (by omega)).mpr ho)
      simp only [spec_PlaceInRing.l0, hl, if_pos (show (i : Int) < ((s.size + 1 - W.toNat : Nat) : Int) by omega), if_pos (show (0 : Int) ≤ (i : Int) by omega), rg i (by omega), if_pos eq]
      exact Ev.now _

theorem place_both (W D : Int) (c : ByteArray) (hcz : c.size ≤ 140737488351232) : ∃ r, Ev (fun k => spec_PlaceInRing.f k W D c) r ∧ Ev (fun k => impl_PlaceInRing.f k W D c) r := by
  unfold spec_PlaceInRing.f impl_PlaceInRing.f
  by_cases h : RK W D
  · by_cases g : isC W D c = true
    · obtain ⟨s, hT, hz, hall, h1, h2⟩ := ring_ev h
      have cb := cnt_bd h.1
      have bg := big h.1
      have hc := h.2
      have w1 := h.1.1; have w2 := h.1.2.1
      have az := arnd_size (s := s) (w := W.toNat) (by omega)
      have aT := arnd_isT hT W.toNat
      have hm : c ∈ wins W.toNat (arnd W.toNat s) := by
        have nb := nu_bd h.1 g
        have := hall (nu D c).toNat (by omega)
        obtain ⟨q, hq, e⟩ := List.mem_map.mp this
        have hqC := wins_isC h.1.1 aT q hq
        have : q = c := nu_inj h.1 hqC g (by omega)
        rw [← this]; exact hq
      obtain ⟨h0, hlp⟩ := place_loop h (s := arnd W.toNat s) (by omega) aT g hm
      have ez : (s.extract 0 (W - 1).toNat).size ≤ 1000 := by rw [ByteArray.size_extract]; omega
      have ea : s ++ s.extract 0 (W - 1).toNat = arnd W.toNat s := by unfold arnd; rw [show (W - 1).toNat = W.toNat - 1 by omega]
      refine ⟨(Lib.index (arnd W.toNat s).data.toList c.data.toList, true), Ev.bind (riGood_ev W D) ?_, Ev.bind (isRounded_ev W D) ?_⟩
      · simp only [decide_eq_true h, if_true]
        refine Ev.bind (whCode_ev h.1.2.2 c hcz) (Ev.succ ?_)
        simp only [g, Bool.not_true, spec_PlaceInRing.j0, Bool.false_eq_true, if_false]
        exact Ev.bind h1 (Ev.bind (riCodesAround_ev h.1 s (by omega) (by omega)) hlp)
      · simp only [decide_eq_true h, if_true]
        refine Ev.bind (has1 W D c hcz) (Ev.succ ?_)
        simp only [decide_eq_true h.1, g, Bool.and_self, Bool.not_true, impl_PlaceInRing.j0, Bool.false_eq_true, if_false]
        refine Ev.bind h2 ?_
        simp only [w64 (x := W - 1) (by omega) (by omega), if_pos (show 0 ≤ W - 1 by omega), if_pos (show W - 1 ≤ (s.size : Int) by omega), if_pos (show s.size + (s.extract 0 (W - 1).toNat).size ≤ 9223372036854775807 by omega), ea, strings_Index.f, if_pos (show (arnd W.toNat s).size < 4294967281 by omega), Option.bind_some]
        exact Ev.now _
    · rw [Bool.not_eq_true] at g
      refine ⟨(0, false), Ev.bind (riGood_ev W D) ?_, Ev.bind (isRounded_ev W D) ?_⟩
      · simp only [decide_eq_true h, if_true]
        refine Ev.bind (whCode_ev h.1.2.2 c hcz) (Ev.succ ?_)
        simp only [g, Bool.not_false, spec_PlaceInRing.j0, if_true]
        exact Ev.now _
      · simp only [decide_eq_true h, if_true]
        refine Ev.bind (has1 W D c hcz) (Ev.succ ?_)
        simp only [g, Bool.and_false, Bool.not_false, impl_PlaceInRing.j0, if_true]
        exact Ev.now _
  · refine ⟨(0, false), Ev.bind (riGood_ev W D) ?_, Ev.bind (isRounded_ev W D) ?_⟩
    · simp only [decide_eq_false h, Bool.false_eq_true, if_false]
      refine Ev.succ ?_
      simp only [spec_PlaceInRing.j0, if_true]; exact Ev.now _
    · simp only [decide_eq_false h, Bool.false_eq_true, if_false]
      refine Ev.succ ?_
      simp only [impl_PlaceInRing.j0, if_true]; exact Ev.now _
theorem FnExactPlaceInRing : ∀ (a0_0 : Int) (a0_1 : Int) (a1 : ByteArray), (-9223372036854775808 ≤ a0_0 ∧ a0_0 ≤ 9223372036854775807) → (-9223372036854775808 ≤ a0_1 ∧ a0_1 ≤ 9223372036854775807) → a1.size ≤ 140737488351232 → ∃ k, laws_FnExactPlaceInRing.f k a0_0 a0_1 a1 = some true := by
  intro W D c _ _ hs
  refine ev_ex ?_
  unfold laws_FnExactPlaceInRing.f laws_toLock.f
  by_cases hb : (c.size : Int) > 1048576
  · simp only [if_pos hb]; exact Ev.now _
  simp only [if_neg hb, Option.bind_some]
  obtain ⟨r, h1, h2⟩ := place_both W D c hs
  refine Ev.bind h1 (Ev.bind h2 ?_)
  simp only [if_true, bne_self_eq_false, Bool.false_eq_true, if_false]
  exact Ev.now _

end Go.Proofs.Ytblccaaahicneaa.Pure
