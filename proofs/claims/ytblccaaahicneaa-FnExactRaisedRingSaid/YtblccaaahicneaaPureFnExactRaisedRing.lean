/- The plain statement behind the law FnExactRaisedRing: whatever the input, the law's Lean function answers true. Conditions: none but the sizes that the row gives. -/
import Derived.Test.YtblccaaahicneaaSR
import Derived.Test.YtblccaaahicneaaPx1
import Derived.Test.YtblccaaahicneaaPx111
import Derived.Test.YtblccaaahicneaaPx113
import Derived.Test.YtblccaaahicneaaPx114
import Derived.Test.YtblccaaahicneaaPx115
namespace Go.Proofs.Ytblccaaahicneaa.Pure
open Go.RowKit Go.Proofs.Ytblccaaahicneaa.P Go.Proofs.Ytblccaaahicneaa.B Go.Proofs.Ytblccaaahicneaa.C Go.Proofs.Ytblccaaahicneaa.L Go.Proofs.Ytblccaaahicneaa.A Go.Proofs.Ytblccaaahicneaa.R Go.Proofs.Ytblccaaahicneaa.RS Go.Proofs.Ytblccaaahicneaa.S Go.Proofs.Ytblccaaahicneaa.SR Go.Proofs.YtblccaaahicneaaW.PrintWords Go.Proofs.YtblccaaahicneaaW.PrintLast Go.Proofs.YtblccaaahicneaaW.PrintMore
set_option linter.unusedVariables false
set_option linter.unusedSimpArgs false

/-- Digits raised by a number. -/
def rsd (D n : Int) (d : List Int) : List Int := d.map fun x => (x + n) % D
theorem rsd_isD {D : Int} (hD : 0 < D) (n : Int) (d : List Int) : IsD D (rsd D n d) := by
  intro x hx
  obtain ⟨y, _, rfl⟩ := List.mem_map.mp hx
  exact ⟨Int.emod_nonneg _ (by omega), Int.emod_lt_of_pos _ hD⟩
theorem spec_raised {W D n : Int} (hD : 2 ≤ D ∧ D ≤ 10) {d : List Int} (hd : IsD D d) (hl : d.length ≤ 1000000) (hn : 0 ≤ n ∧ n ≤ 10) : Ev (fun k => spec_RaisedRing.l0 k n ⟨#[]⟩ d (d.length : Int) 0 W D) (txt (rsd D n d), true) := by
  refine ev_loop (g := fun j k => spec_RaisedRing.l0 k n (txt ((rsd D n d).take j)) d (d.length : Int) (j : Int) W D) d.length ?_ ?_
  · intro j hj ih
    have x := IsD.get hd hj
    have hj' : j < (rsd D n d).length := by unfold rsd; rw [List.length_map]; exact hj
    have e0 : (0 : Int) ≤ (d[j] + n) % D := Int.emod_nonneg _ (by omega)
    have e1 : (d[j] + n) % D < D := Int.emod_lt_of_pos _ (by omega)
    have tl : (txt ((rsd D n d).take j)).size = j := by rw [txt_size, List.length_take]; omega
    have tl1 : (txt [(d[j] + n) % D]).size = 1 := by rw [txt_size]; rfl
    refine Ev.succ ?_
    simp only [spec_RaisedRing.l0, if_pos (show (j : Int) < (d.length : Int) by omega), if_pos (show (0 : Int) ≤ (j : Int) by omega), if_neg (show ¬ D = 0 by omega), rd_get d j hj, w64 (x := d[j] + n) (by omega) (by omega), w64 (x := (j : Int) + 1) (by omega) (by omega), Int.tmod_eq_emod_of_nonneg (show 0 ≤ d[j] + n by omega)]
    refine Ev.bind (l1Num_ev ⟨e0, by omega⟩) ?_
    rw [tl, tl1]
    simp only [if_pos (show j + 1 ≤ 9223372036854775807 by omega)]
    rw [txt_append]
    rw [List.take_succ_eq_append_getElem hj', show (rsd D n d)[j] = (d[j] + n) % D by simp [rsd]] at ih
    exact ih
  · refine Ev.succ ?_
    simp only [spec_RaisedRing.l0, if_neg (show ¬ ((d.length : Nat) : Int) < (d.length : Int) by omega)]
    rw [List.take_of_length_le (by unfold rsd; rw [List.length_map]; exact Nat.le_refl _)]
    exact Ev.now _
theorem impl_raised {W D n : Int} (hD : 2 ≤ D ∧ D ≤ 10) {d : List Int} (hd : IsD D d) (hl : d.length ≤ 1000000) (hn : 0 ≤ n ∧ n ≤ 10) : Ev (fun k => impl_Lock_raised.l0 k n d (d.length : Int) 0 W D) (txt (rsd D n d)) := by
  have rl : (rsd D n d).length = d.length := by unfold rsd; rw [List.length_map]
  refine ev_loop (g := fun j k => impl_Lock_raised.l0 k n ((rsd D n d).take j ++ d.drop j) (d.length : Int) (j : Int) W D) d.length ?_ ?_
  · intro j hj ih
    have x := IsD.get hd hj
    have hj' : j < (rsd D n d).length := by omega
    have ll : ((rsd D n d).take j ++ d.drop j).length = d.length := by rw [List.length_append, List.length_take, List.length_drop]; omega
    have tl : ((rsd D n d).take j).length = j := by rw [List.length_take]; omega
    have g : rd ((rsd D n d).take j ++ d.drop j) (j : Int) = d[j] := by
      rw [rd_get _ j (by omega), List.getElem_append_right (by omega), List.getElem_drop]
      simp only [tl, Nat.sub_self, Nat.add_zero]
    refine Ev.succ ?_
    simp only [impl_Lock_raised.l0, if_pos (show (j : Int) < (d.length : Int) by omega), if_pos (show (0 : Int) ≤ (j : Int) by omega), ll, g, w64 (x := d[j] + n) (by omega) (by omega), w64 (x := (j : Int) + 1) (by omega) (by omega), around_eq (show 1 ≤ D ∧ D ≤ 1000 by omega), Option.bind_some]
    have e : ((rsd D n d).take j ++ d.drop j).set ((j : Int)).toNat ((d[j] + n) % D) = (rsd D n d).take (j + 1) ++ d.drop (j + 1) := by
      rw [Int.toNat_natCast, List.drop_eq_getElem_cons hj, List.take_succ_eq_append_getElem hj', show (rsd D n d)[j] = (d[j] + n) % D by simp [rsd], List.append_assoc]
      rw [List.set_append_right _ _ (by omega), tl, Nat.sub_self]
      rfl
    rw [e]
    exact ih
  · refine Ev.succ ?_
    simp only [impl_Lock_raised.l0, if_neg (show ¬ ((d.length : Nat) : Int) < (d.length : Int) by omega)]
    rw [List.take_of_length_le (by omega), List.drop_of_length_le (Nat.le_refl _), List.append_nil]
    exact Ev.bind (text_ev _ (by omega) (IsD.mono (rsd_isD (by omega) n d) hD.2)) (Ev.now _)

theorem raisedRing_both (W D : Int) (s : ByteArray) (n : Int) : ∃ r, Ev (fun k => spec_RaisedRing.f k W D s n) r ∧ Ev (fun k => impl_RaisedRing.f k W D s n) r := by
  unfold spec_RaisedRing.f impl_RaisedRing.f
  have im := isRing_ev W D s
  by_cases h : RK W D
  · rw [decide_eq_true h, Bool.true_and] at im
    by_cases g : ringB W D s = true
    · have z := ring_size g
      have cb := cnt_bd h.1
      have hD := h.1.2.2
      have hd := digs_isD hD (ring_isT g) (W := W)
      have dl := digs_len s
      simp only [l1In_eq, within_eq, Option.bind_some]
      by_cases q : 0 ≤ n ∧ n ≤ wrap64 (D - 1)
      · have q' := q
        rw [w64 (by omega) (by omega)] at q'
        refine ⟨(txt (rsd D n (digs s)), true), Ev.bind (riGood_ev W D) ?_, Ev.bind im ?_⟩
        · simp only [decide_eq_true h, if_true]
          refine Ev.bind (riRing_ev h s) ?_
          simp only [g, if_true, decide_eq_true q, Bool.not_true]
          refine Ev.succ ?_
          simp only [spec_RaisedRing.j0, Bool.false_eq_true, if_false]
          exact Ev.bind (whDigits_ev s (by omega)) (spec_raised hD hd (by omega) ⟨q.1, by omega⟩)
        · simp only [g, if_true, decide_eq_true q]
          unfold impl_Lock_raised.f
          exact Ev.bind (Ev.bind (digits_ev s (by omega)) (impl_raised hD hd (by omega) ⟨q.1, by omega⟩)) (Ev.now _)
      · refine ⟨(⟨#[]⟩, false), Ev.bind (riGood_ev W D) ?_, Ev.bind im ?_⟩
        · simp only [decide_eq_true h, if_true]
          refine Ev.bind (riRing_ev h s) ?_
          simp only [g, if_true, decide_eq_false q, Bool.not_false]
          refine Ev.succ ?_
          simp only [spec_RaisedRing.j0, if_true]; exact Ev.now _
        · simp only [g, if_true, decide_eq_false q, Bool.false_eq_true, if_false]
          exact Ev.now _
    · rw [Bool.not_eq_true] at g
      refine ⟨(⟨#[]⟩, false), Ev.bind (riGood_ev W D) ?_, Ev.bind im ?_⟩
      · simp only [decide_eq_true h, if_true]
        refine Ev.bind (riRing_ev h s) ?_
        simp only [g, Bool.false_eq_true, if_false]
        refine Ev.succ ?_
        simp only [spec_RaisedRing.j0, if_true]; exact Ev.now _
      · simp only [g, Bool.false_eq_true, if_false]
        exact Ev.now _
  · rw [decide_eq_false h, Bool.false_and] at im
    refine ⟨(⟨#[]⟩, false), Ev.bind (riGood_ev W D) ?_, Ev.bind im ?_⟩
    · simp only [decide_eq_false h, Bool.false_eq_true, if_false]
      refine Ev.succ ?_
      simp only [spec_RaisedRing.j0, if_true]; exact Ev.now _
    · simp only [Bool.false_eq_true, if_false]; exact Ev.now _
theorem FnExactRaisedRing : ∀ (a0_0 : Int) (a0_1 : Int) (a1 : ByteArray) (a2 : Int), (-9223372036854775808 ≤ a0_0 ∧ a0_0 ≤ 9223372036854775807) → (-9223372036854775808 ≤ a0_1 ∧ a0_1 ≤ 9223372036854775807) → a1.size ≤ 140737488351232 → (-9223372036854775808 ≤ a2 ∧ a2 ≤ 9223372036854775807) → ∃ k, laws_FnExactRaisedRing.f k a0_0 a0_1 a1 a2 = some true := by
  intro W D s n _ _ hs _
  refine ev_ex ?_
  unfold laws_FnExactRaisedRing.f laws_toLock.f
  by_cases hb : (s.size : Int) > 1048576
  · simp only [if_pos hb]; exact Ev.now _
  simp only [if_neg hb, Option.bind_some]
  obtain ⟨r, h1, h2⟩ := raisedRing_both W D s n
  refine Ev.bind h1 (Ev.bind h2 ?_)
  simp only [if_true, bne_self_eq_false, Bool.false_eq_true, if_false]
  exact Ev.now _

end Go.Proofs.Ytblccaaahicneaa.Pure
