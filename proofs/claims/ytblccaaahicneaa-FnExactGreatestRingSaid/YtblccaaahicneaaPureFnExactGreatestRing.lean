/- The plain statement behind the law FnExactGreatestRing: whatever the input, the law's Lean function answers true. Conditions: none but the sizes that the row gives. -/
import Derived.Test.YtblccaaahicneaaLR
import Derived.Test.YtblccaaahicneaaPx1
import Derived.Test.YtblccaaahicneaaPx33
import Derived.Test.YtblccaaahicneaaPx36
import Derived.Test.YtblccaaahicneaaPx37
namespace Go.Proofs.Ytblccaaahicneaa.Pure
open Go.RowKit Go.Proofs.Ytblccaaahicneaa.P Go.Proofs.Ytblccaaahicneaa.B Go.Proofs.Ytblccaaahicneaa.C Go.Proofs.Ytblccaaahicneaa.L Go.Proofs.Ytblccaaahicneaa.A Go.Proofs.Ytblccaaahicneaa.R Go.Proofs.Ytblccaaahicneaa.RS Go.Proofs.Ytblccaaahicneaa.S Go.Proofs.Ytblccaaahicneaa.LR Go.Proofs.YtblccaaahicneaaW.PrintWords Go.Proofs.YtblccaaahicneaaW.PrintLast Go.Proofs.YtblccaaahicneaaW.PrintMore
set_option linter.unusedVariables false
set_option linter.unusedSimpArgs false

/-- Digits told from the greatest one on. -/
def top (D : Int) (d : List Int) : List Int := d.map fun x => D - 1 - x
theorem top_isD {D : Int} {d : List Int} (hd : IsD D d) : IsD D (top D d) := by
  intro x hx
  obtain ⟨y, hy, rfl⟩ := List.mem_map.mp hx
  have := hd y hy
  omega
theorem spec_top {W D : Int} (hD : 2 ≤ D ∧ D ≤ 10) {d : List Int} (hd : IsD D d) (hl : d.length ≤ 1000000) : Ev (fun k => spec_GreatestRing.l0 k ⟨#[]⟩ d (d.length : Int) 0 W D) (txt (top D d), true) := by
  refine ev_loop (g := fun j k => spec_GreatestRing.l0 k (txt ((top D d).take j)) d (d.length : Int) (j : Int) W D) d.length ?_ ?_
  · intro j hj ih
    have x := IsD.get hd hj
    have hj' : j < (top D d).length := by unfold top; rw [List.length_map]; exact hj
    have tl : (txt ((top D d).take j)).size = j := by rw [txt_size, List.length_take]; omega
    have tl1 : (txt [D - 1 - d[j]]).size = 1 := by rw [txt_size]; rfl
    refine Ev.succ ?_
    simp only [spec_GreatestRing.l0, if_pos (show (j : Int) < (d.length : Int) by omega), if_pos (show (0 : Int) ≤ (j : Int) by omega), rd_get d j hj, w64 (x := D - 1) (by omega) (by omega), w64 (x := D - 1 - d[j]) (by omega) (by omega), w64 (x := (j : Int) + 1) (by omega) (by omega)]
    refine Ev.bind (l1Num_ev ⟨by omega, by omega⟩) ?_
    rw [tl, tl1]
    simp only [if_pos (show j + 1 ≤ 9223372036854775807 by omega)]
    rw [txt_append]
    rw [List.take_succ_eq_append_getElem hj', show (top D d)[j] = D - 1 - d[j] by simp [top]] at ih
    exact ih
  · refine Ev.succ ?_
    simp only [spec_GreatestRing.l0, if_neg (show ¬ ((d.length : Nat) : Int) < (d.length : Int) by omega)]
    rw [List.take_of_length_le (by unfold top; rw [List.length_map]; exact Nat.le_refl _)]
    exact Ev.now _
theorem impl_top {W D : Int} (hD : 2 ≤ D ∧ D ≤ 10) {d : List Int} (hd : IsD D d) (hl : d.length ≤ 1000000) : Ev (fun k => impl_GreatestRing.l0 k d (d.length : Int) 0 W D) (txt (top D d), true) := by
  have rl : (top D d).length = d.length := by unfold top; rw [List.length_map]
  refine ev_loop (g := fun j k => impl_GreatestRing.l0 k ((top D d).take j ++ d.drop j) (d.length : Int) (j : Int) W D) d.length ?_ ?_
  · intro j hj ih
    have x := IsD.get hd hj
    have hj' : j < (top D d).length := by omega
    have ll : ((top D d).take j ++ d.drop j).length = d.length := by rw [List.length_append, List.length_take, List.length_drop]; omega
    have tl : ((top D d).take j).length = j := by rw [List.length_take]; omega
    have g : rd ((top D d).take j ++ d.drop j) (j : Int) = d[j] := by
      rw [rd_get _ j (by omega), List.getElem_append_right (by omega), List.getElem_drop]
      simp only [tl, Nat.sub_self, Nat.add_zero]
    refine Ev.succ ?_
    simp only [impl_GreatestRing.l0, if_pos (show (j : Int) < (d.length : Int) by omega), if_pos (show (0 : Int) ≤ (j : Int) by omega), ll, g, w64 (x := D - 1) (by omega) (by omega), w64 (x := D - 1 - d[j]) (by omega) (by omega), w64 (x := (j : Int) + 1) (by omega) (by omega)]
    have e : ((top D d).take j ++ d.drop j).set ((j : Int)).toNat (D - 1 - d[j]) = (top D d).take (j + 1) ++ d.drop (j + 1) := by
      rw [Int.toNat_natCast, List.drop_eq_getElem_cons hj, List.take_succ_eq_append_getElem hj', show (top D d)[j] = D - 1 - d[j] by simp [top], List.append_assoc]
      rw [List.set_append_right _ _ (by omega), tl, Nat.sub_self]
      rfl
    rw [e]
    exact ih
  · refine Ev.succ ?_
    simp only [impl_GreatestRing.l0, if_neg (show ¬ ((d.length : Nat) : Int) < (d.length : Int) by omega)]
    rw [List.take_of_length_le (by omega), List.drop_of_length_le (Nat.le_refl _), List.append_nil]
    exact Ev.bind (text_ev _ (by omega) (IsD.mono (top_isD hd) hD.2)) (Ev.now _)

theorem greatest_both (W D : Int) : ∃ r, Ev (fun k => spec_GreatestRing.f k W D) r ∧ Ev (fun k => impl_GreatestRing.f k W D) r := by
  unfold spec_GreatestRing.f impl_GreatestRing.f
  by_cases h : RK W D
  · obtain ⟨s, hT, hz, _, h1, h2⟩ := ring_ev h
    have hc := h.2
    have hD := h.1.2.2
    have hd := digs_isD hD hT (W := W)
    have dl := digs_len s
    refine ⟨(txt (top D (digs s)), true), Ev.bind (riGood_ev W D) ?_, Ev.bind (isRounded_ev W D) ?_⟩
    · simp only [decide_eq_true h, if_true]
      exact Ev.bind h1 (Ev.bind (whDigits_ev s (by omega)) (spec_top hD hd (by omega)))
    · simp only [decide_eq_true h, if_true]
      exact Ev.bind h2 (Ev.bind (digits_ev s (by omega)) (impl_top hD hd (by omega)))
  · refine ⟨(⟨#[]⟩, false), Ev.bind (riGood_ev W D) ?_, Ev.bind (isRounded_ev W D) ?_⟩
    · simp only [decide_eq_false h, Bool.false_eq_true, if_false]; exact Ev.now _
    · simp only [decide_eq_false h, Bool.false_eq_true, if_false]; exact Ev.now _
theorem FnExactGreatestRing : ∀ (a0_0 : Int) (a0_1 : Int), (-9223372036854775808 ≤ a0_0 ∧ a0_0 ≤ 9223372036854775807) → (-9223372036854775808 ≤ a0_1 ∧ a0_1 ≤ 9223372036854775807) → ∃ k, laws_FnExactGreatestRing.f k a0_0 a0_1 = some true := by
  intro W D _ _
  refine ev_ex ?_
  unfold laws_FnExactGreatestRing.f laws_toLock.f
  simp only [Option.bind_some]
  obtain ⟨r, h1, h2⟩ := greatest_both W D
  refine Ev.bind h1 (Ev.bind h2 ?_)
  simp only [if_true, bne_self_eq_false, Bool.false_eq_true, if_false]
  exact Ev.now _

end Go.Proofs.Ytblccaaahicneaa.Pure
