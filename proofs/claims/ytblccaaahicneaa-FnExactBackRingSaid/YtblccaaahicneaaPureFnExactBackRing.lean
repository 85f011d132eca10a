/- The plain statement behind the law FnExactBackRing: whatever the input, the law's Lean function answers true. Conditions: none but the sizes that the row gives. -/
import Derived.Test.YtblccaaahicneaaSR
import Derived.Test.YtblccaaahicneaaPx1
import Derived.Test.YtblccaaahicneaaPx108
import Derived.Test.YtblccaaahicneaaPx109
import Derived.Test.YtblccaaahicneaaPx110
namespace Go.Proofs.Ytblccaaahicneaa.Pure
open Go.RowKit Go.Proofs.Ytblccaaahicneaa.P Go.Proofs.Ytblccaaahicneaa.B Go.Proofs.Ytblccaaahicneaa.C Go.Proofs.Ytblccaaahicneaa.A Go.Proofs.Ytblccaaahicneaa.R Go.Proofs.Ytblccaaahicneaa.RS Go.Proofs.Ytblccaaahicneaa.S Go.Proofs.Ytblccaaahicneaa.SR Go.Proofs.YtblccaaahicneaaW.PrintWords Go.Proofs.YtblccaaahicneaaW.PrintLast Go.Proofs.YtblccaaahicneaaW.PrintMore
set_option linter.unusedVariables false
set_option linter.unusedSimpArgs false

/-- A text's bytes from the last to the first. -/
def rev (s : ByteArray) : ByteArray := ⟨s.data.toList.reverse.toArray⟩
theorem ext_one {s : ByteArray} {j : Nat} (h : j < s.size) : (s.extract j (j + 1)).data.toList = [s.data.toList[j]'(by rw [← size_len]; exact h)] := by
  rw [win_data]
  have h' : j < s.data.toList.length := by rw [← size_len]; exact h
  rw [List.drop_eq_getElem_cons h']
  rfl
theorem app_data (a b : ByteArray) : (a ++ b).data.toList = a.data.toList ++ b.data.toList := by
  rw [ByteArray.data_append, Array.toList_append]
theorem spec_back {s : ByteArray} (hs : s.size ≤ 1000000) (h1 : 1 ≤ s.size) : Ev (fun k => spec_BackRing.l0 k s ⟨#[]⟩ (wrap64 ((s.size : Int) - 1))) (rev s, true) := by
  rw [w64 (by omega) (by omega)]
  have key : ∀ m : Nat, m ≤ s.size → Ev (fun k => spec_BackRing.l0 k s ⟨(s.data.toList.drop m).reverse.toArray⟩ ((m : Int) - 1)) (rev s, true) := by
    intro m
    induction m with
    | zero =>
      intro _
      refine Ev.succ ?_
      simp only [spec_BackRing.l0, if_neg (show ¬ ((0 : Nat) : Int) - 1 ≥ 0 by omega), List.drop_zero]
      exact Ev.now _
    | succ m ih =>
      intro hm
      refine Ev.succ ?_
      have hx := ext_one (s := s) (j := m) (by omega)
      have sx : (s.extract m (m + 1)).size = 1 := by rw [ByteArray.size_extract]; omega
      have ss : (⟨(s.data.toList.drop (m + 1)).reverse.toArray⟩ : ByteArray).size = s.size - (m + 1) := by
        rw [size_len]
        show ((s.data.toList.drop (m + 1)).reverse).length = _
        rw [List.length_reverse, List.length_drop, ← size_len]
      simp only [spec_BackRing.l0, show ((m + 1 : Nat) : Int) - 1 = (m : Int) by omega, if_pos (show (m : Int) ≥ 0 by omega), if_pos (show 0 ≤ (m : Int) by omega), w64 (x := (m : Int) + 1) (by omega) (by omega), if_pos (show (m : Int) ≤ (m : Int) + 1 by omega), if_pos (show (m : Int) + 1 ≤ (s.size : Int) by omega), show ((m : Int)).toNat = m by omega, show ((m : Int) + 1).toNat = m + 1 by omega, ss, sx, if_pos (show s.size - (m + 1) + 1 ≤ 9223372036854775807 by omega), w64 (x := (m : Int) - 1) (by omega) (by omega)]
      have e : (⟨(s.data.toList.drop (m + 1)).reverse.toArray⟩ : ByteArray) ++ s.extract m (m + 1) = ⟨(s.data.toList.drop m).reverse.toArray⟩ := by
        apply byte_inj
        rw [app_data, hx]
        have h' : m < s.data.toList.length := by rw [← size_len]; omega
        rw [List.drop_eq_getElem_cons h', List.reverse_cons]
      rw [e]
      exact ih (by omega)
  have := key s.size (Nat.le_refl _)
  rw [List.drop_of_length_le (by rw [← size_len]; exact Nat.le_refl _)] at this
  exact this
theorem impl_back {s : ByteArray} (hs : s.size ≤ 1000000) : Ev (fun k => impl_BackRing.l0 k s ⟨#[]⟩ (s.size : Int) 0) (rev s, true) := by
  refine ev_loop (g := fun j k => impl_BackRing.l0 k s ⟨(s.data.toList.take j).reverse.toArray⟩ (s.size : Int) (j : Int)) s.size ?_ ?_
  · intro m hm ih
    refine Ev.succ ?_
    have hx := ext_one (s := s) (j := m) (by omega)
    have sx : (s.extract m (m + 1)).size = 1 := by rw [ByteArray.size_extract]; omega
    have ss : (⟨(s.data.toList.take m).reverse.toArray⟩ : ByteArray).size = m := by
      rw [size_len]
      show ((s.data.toList.take m).reverse).length = m
      rw [List.length_reverse, List.length_take, ← size_len]; omega
    simp only [impl_BackRing.l0, if_pos (show (m : Int) < (s.size : Int) by omega), if_pos (show 0 ≤ (m : Int) by omega), w64 (x := (m : Int) + 1) (by omega) (by omega), if_pos (show (m : Int) ≤ (m : Int) + 1 by omega), if_pos (show (m : Int) + 1 ≤ (s.size : Int) by omega), show ((m : Int)).toNat = m by omega, show ((m : Int) + 1).toNat = m + 1 by omega, ss, sx, if_pos (show 1 + m ≤ 9223372036854775807 by omega)]
    have e : s.extract m (m + 1) ++ (⟨(s.data.toList.take m).reverse.toArray⟩ : ByteArray) = ⟨(s.data.toList.take (m + 1)).reverse.toArray⟩ := by
      apply byte_inj
      rw [app_data, hx]
      have h' : m < s.data.toList.length := by rw [← size_len]; omega
      rw [List.take_succ_eq_append_getElem h', List.reverse_append]
      rfl
    rw [e]
    exact ih
  · refine Ev.succ ?_
    simp only [impl_BackRing.l0, if_neg (show ¬ ((s.size : Nat) : Int) < (s.size : Int) by omega)]
    rw [List.take_of_length_le (by rw [← size_len]; exact Nat.le_refl _)]
    exact Ev.now _

theorem backRing_both (W D : Int) (s : ByteArray) : ∃ r, Ev (fun k => spec_BackRing.f k W D s) r ∧ Ev (fun k => impl_BackRing.f k W D s) r := by
  unfold spec_BackRing.f impl_BackRing.f
  have im := isRing_ev W D s
  by_cases h : RK W D
  · rw [decide_eq_true h, Bool.true_and] at im
    by_cases g : ringB W D s = true
    · have z := ring_size g
      have cb := cnt_bd h.1
      refine ⟨(rev s, true), Ev.bind (riGood_ev W D) ?_, Ev.bind im ?_⟩
      · simp only [decide_eq_true h, if_true]
        refine Ev.bind (riRing_ev h s) (Ev.succ ?_)
        simp only [g, Bool.not_true, spec_BackRing.j0, Bool.false_eq_true, if_false]
        exact spec_back (by omega) (by omega)
      · simp only [g, if_true]
        exact impl_back (by omega)
    · rw [Bool.not_eq_true] at g
      refine ⟨(⟨#[]⟩, false), Ev.bind (riGood_ev W D) ?_, Ev.bind im ?_⟩
      · simp only [decide_eq_true h, if_true]
        refine Ev.bind (riRing_ev h s) (Ev.succ ?_)
        simp only [g, Bool.not_false, spec_BackRing.j0, if_true]
        exact Ev.now _
      · simp only [g, Bool.false_eq_true, if_false]
        exact Ev.now _
  · rw [decide_eq_false h, Bool.false_and] at im
    refine ⟨(⟨#[]⟩, false), Ev.bind (riGood_ev W D) ?_, Ev.bind im ?_⟩
    · simp only [decide_eq_false h, Bool.false_eq_true, if_false]
      refine Ev.succ ?_
      simp only [spec_BackRing.j0, if_true]; exact Ev.now _
    · simp only [Bool.false_eq_true, if_false]; exact Ev.now _
theorem FnExactBackRing : ∀ (a0_0 : Int) (a0_1 : Int) (a1 : ByteArray), (-9223372036854775808 ≤ a0_0 ∧ a0_0 ≤ 9223372036854775807) → (-9223372036854775808 ≤ a0_1 ∧ a0_1 ≤ 9223372036854775807) → a1.size ≤ 140737488351232 → ∃ k, laws_FnExactBackRing.f k a0_0 a0_1 a1 = some true := by
  intro W D s _ _ hs
  refine ev_ex ?_
  unfold laws_FnExactBackRing.f laws_toLock.f
  by_cases hb : (s.size : Int) > 1048576
  · simp only [if_pos hb]; exact Ev.now _
  simp only [if_neg hb, Option.bind_some]
  obtain ⟨r, h1, h2⟩ := backRing_both W D s
  refine Ev.bind h1 (Ev.bind h2 ?_)
  simp only [if_true, bne_self_eq_false, Bool.false_eq_true, if_false]
  exact Ev.now _

end Go.Proofs.Ytblccaaahicneaa.Pure
