/- What the functions of the orders answer, told on lists of digits. No conditions. -/
import Derived.Test.YtihhiolflbieaaaNcA
import Derived.Test.YtihhiolflbieaaaPx132
namespace Go.Proofs.Ytihhiolflbieaaa.O
open Go.RowKit Go.Proofs.Ytihhiolflbieaaa.P Go.Proofs.Ytihhiolflbieaaa.B Go.Proofs.Ytihhiolflbieaaa.C Go.Proofs.Ytihhiolflbieaaa.L Go.Proofs.Ytihhiolflbieaaa.A Go.Proofs.YtihhiolflbieaaaW.PrintWords Go.Proofs.YtihhiolflbieaaaW.PrintLast Go.Proofs.YtihhiolflbieaaaW.PrintMore
set_option linter.unusedVariables false
set_option linter.unusedSimpArgs false

theorem LK.w {W D : Int} (h : LK W D) : (W.toNat : Int) = W ∧ W.toNat ≤ 6 ∧ 0 < W.toNat := by obtain ⟨h1, h2, _⟩ := h; omega
theorem LK.d {W D : Int} (h : LK W D) : 2 ≤ D ∧ D ≤ 10 := h.2.2

theorem rep_set (m : Nat) (c : List Int) (v : Int) : (List.replicate (m + 1) 0 ++ c).set m v = List.replicate m 0 ++ v :: c := by
  rw [List.replicate_succ', List.append_assoc, List.set_append_right _ _ (by simp), List.length_replicate, Nat.sub_self]
  rfl

theorem div_step {D : Int} (hD : 0 < D) (n : Int) (j : Nat) : n / D ^ j / D = n / D ^ (j + 1) := by
  rw [Int.pow_succ, Int.ediv_ediv_of_nonneg (Int.le_of_lt (pw_pos hD j))]
theorem div_bd {D : Int} (hD : 0 < D) {n : Int} (h0 : 0 ≤ n) (j : Nat) : 0 ≤ n / D ^ j ∧ n / D ^ j ≤ n := by
  have hp := pw_pos hD j
  exact ⟨Int.ediv_nonneg h0 (by omega), Int.ediv_le_self _ h0⟩

theorem whOf_ev {W D : Int} (h : LK W D) {n : Int} (h0 : 0 ≤ n) (h1 : n ≤ 1000000000) : Ev (fun k => spec_whOf.f k W D n) (txt (cod D W.toNat n)) := by
  obtain ⟨hw, hw6, hw0⟩ := LK.w h
  have hD := LK.d h
  have hD0 : 0 < D := by omega
  unfold spec_whOf.f
  simp only [if_pos (show 0 ≤ W by omega), if_pos (show W.toNat ≤ 35184372088832 by omega), w64 (x := W - 1) (by omega) (by omega)]
  have key := ev_loop (g := fun j k => spec_whOf.l0 k (n / D ^ j) (List.replicate (W.toNat - j) 0 ++ cod D j n) ((W.toNat : Int) - 1 - j) W D) (r := txt (cod D W.toNat n)) W.toNat ?_ ?_
  · rw [Int.pow_zero, Int.ediv_one] at key
    simp only [Nat.sub_zero, cod, List.append_nil, hw] at key
    rw [show W - 1 - ((0 : Nat) : Int) = W - 1 by omega] at key
    exact key
  · intro j hj ih
    have db := div_bd hD0 h0 j
    have db1 := div_bd hD0 h0 (j + 1)
    refine Ev.succ ?_
    have e1 : (List.replicate (W.toNat - j) 0 ++ cod D j n).length = W.toNat := by simp [cod_len]; omega
    have e2 : Int.tdiv (n / D ^ j) D = n / D ^ (j + 1) := by rw [Int.tdiv_eq_ediv_of_nonneg db.1, div_step hD0]
    have e3 : Int.tmod (n / D ^ j) D = n / D ^ j % D := Int.tmod_eq_emod_of_nonneg db.1
    have e4 : ((W.toNat : Int) - 1 - j).toNat = W.toNat - (j + 1) := by omega
    simp only [spec_whOf.l0, e1, if_pos (show (W.toNat : Int) - 1 - j ≥ 0 by omega), if_neg (show ¬ D = 0 by omega), if_pos (show (W.toNat : Int) - 1 - j < (W.toNat : Int) by omega), e2, e3, e4,
      w64 (x := n / D ^ (j + 1)) (by omega) (by omega), w64 (x := (W.toNat : Int) - 1 - j - 1) (by omega) (by omega)]
    rw [show W.toNat - j = W.toNat - (j + 1) + 1 by omega, rep_set]
    rw [show (W.toNat : Int) - 1 - j - 1 = (W.toNat : Int) - 1 - ((j + 1 : Nat) : Int) by omega]
    exact ih
  · refine Ev.succ ?_
    simp only [spec_whOf.l0, if_neg (show ¬ ((W.toNat : Int) - 1 - (W.toNat : Int) ≥ 0) by omega), Nat.sub_self, List.replicate_zero, List.nil_append]
    exact Ev.bind (whText_ev _ (by rw [cod_len]; omega) (IsD.mono (cod_isD hD0 _ _) hD.2)) (Ev.now _)

/-- The text of a code, by its digits. -/
theorem codeOf {W D : Int} (h : LK W D) {s : ByteArray} (hc : isC W D s = true) : (digs s).length = W.toNat ∧ IsD D (digs s) ∧ txt (digs s) = s := by
  have z := isC_size hc
  refine ⟨by rw [digs_len]; omega, digs_isD (W := W) (LK.d h) (isC_isT hc), txt_digs (LK.d h) (isC_isT hc)⟩

end Go.Proofs.Ytihhiolflbieaaa.O
