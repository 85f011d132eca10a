/- The round order: what the functions answer, told on lists of digits. No conditions. -/
import Derived.Test.YtblccaaahicneaaO2
import Derived.Test.YtblccaaahicneaaPx67
namespace Go.Proofs.Ytblccaaahicneaa.O3
open Go.RowKit Go.Proofs.Ytblccaaahicneaa.P Go.Proofs.Ytblccaaahicneaa.B Go.Proofs.Ytblccaaahicneaa.C Go.Proofs.Ytblccaaahicneaa.L Go.Proofs.Ytblccaaahicneaa.A Go.Proofs.Ytblccaaahicneaa.O Go.Proofs.Ytblccaaahicneaa.O2 Go.Proofs.YtblccaaahicneaaW.PrintWords Go.Proofs.YtblccaaahicneaaW.PrintLast Go.Proofs.YtblccaaahicneaaW.PrintMore
set_option linter.unusedVariables false
set_option linter.unusedSimpArgs false

theorem code_ev {W D : Int} (h : LK W D) {n : Int} (h0 : 0 ≤ n) (h1 : n ≤ 1000000000) : Ev (fun k => impl_Lock_code.f k W D n) (txt (cod D W.toNat n)) := by
  obtain ⟨hw, hw6, hw0⟩ := LK.w h
  have hD := LK.d h
  have hD0 : 0 < D := by omega
  unfold impl_Lock_code.f
  simp only [if_pos (show 0 ≤ W by omega), if_pos (show W.toNat ≤ 35184372088832 by omega), w64 (x := W - 1) (by omega) (by omega)]
  have key := ev_loop (g := fun j k => impl_Lock_code.l0 k (n / D ^ j) (List.replicate (W.toNat - j) 0 ++ cod D j n) ((W.toNat : Int) - 1 - j) W D) (r := txt (cod D W.toNat n)) W.toNat ?_ ?_
  · rw [Int.pow_zero, Int.ediv_one] at key
    simp only [Nat.sub_zero, cod, List.append_nil, hw] at key
    rw [show W - 1 - ((0 : Nat) : Int) = W - 1 by omega] at key
    exact key
  · intro j hj ih
    have db := div_bd hD0 h0 j
    have db1 := div_bd hD0 h0 (j + 1)
    refine Ev.succ ?_
    have e1 : (List.replicate (W.toNat - j) 0 ++ cod D j n).length = W.toNat := by simp [cod_len]; omega
    have e2 : Int.tdiv (n / D ^ j) D = n / D ^ (j + 1) := by rw [Int.tdiv_eq_ediv_of_nonneg db.1, div_step hD0]
    have e3 : Int.tmod (n / D ^ j) D = n / D ^ j % D := Int.tmod_eq_emod_of_nonneg db.1
    have e4 : ((W.toNat : Int) - 1 - j).toNat = W.toNat - (j + 1) := by omega
    simp only [impl_Lock_code.l0, e1, if_pos (show (W.toNat : Int) - 1 - j ≥ 0 by omega), if_neg (show ¬ D = 0 by omega), if_pos (show (W.toNat : Int) - 1 - j < (W.toNat : Int) by omega), e2, e3, e4,
      w64 (x := n / D ^ (j + 1)) (by omega) (by omega), w64 (x := (W.toNat : Int) - 1 - j - 1) (by omega) (by omega)]
    rw [show W.toNat - j = W.toNat - (j + 1) + 1 by omega, rep_set]
    rw [show (W.toNat : Int) - 1 - j - 1 = (W.toNat : Int) - 1 - ((j + 1 : Nat) : Int) by omega]
    exact ih
  · refine Ev.succ ?_
    simp only [impl_Lock_code.l0, if_neg (show ¬ ((W.toNat : Int) - 1 - (W.toNat : Int) ≥ 0) by omega), Nat.sub_self, List.replicate_zero, List.nil_append]
    exact Ev.bind (text_ev _ (by rw [cod_len]; omega) (IsD.mono (cod_isD hD0 _ _) hD.2)) (Ev.now _)

theorem df_snoc (D : Int) : ∀ (d : List Int) (p : Int) (j : Nat) (hj : j + 1 < d.length), (df D p d)[j + 1]'(by rw [df_len]; exact hj) = (d[j + 1] - d[j]'(by omega)) % D
  | [], _, _, hj => absurd hj (by simp)
  | [x], _, _, hj => absurd hj (by simp)
  | x :: y :: ys, p, 0, hj => rfl
  | x :: y :: ys, p, j + 1, hj => by
    have := df_snoc D (y :: ys) x j (by simpa using hj)
    simpa only [df, List.getElem_cons_succ] using this
theorem take_one {α : Type} : ∀ (l : List α) (h : 0 < l.length), l.take 1 = [l[0]]
  | [], h => absurd h (by simp)
  | x :: xs, _ => rfl
theorem df_head {D : Int} {d : List Int} (hd : IsD D d) (h : 0 < d.length) : (df D 0 d)[0]'(by rw [df_len]; exact h) = d[0] := by
  cases d with
  | nil => exact absurd h (by simp)
  | cons x xs =>
    obtain ⟨⟨h0, h1⟩, _⟩ := IsD.cons hd
    simp only [df, List.getElem_cons_zero, Int.sub_zero, Int.emod_eq_of_lt h0 h1]

end Go.Proofs.Ytblccaaahicneaa.O3
