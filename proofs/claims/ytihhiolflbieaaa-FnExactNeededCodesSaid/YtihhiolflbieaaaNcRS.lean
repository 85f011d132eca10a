/- Which codes are in a list of codes: what the reference's table of them is. No conditions. -/
import Derived.Test.YtihhiolflbieaaaNcR
import Derived.Test.YtihhiolflbieaaaPx9
namespace Go.Proofs.Ytihhiolflbieaaa.RS
open Go.RowKit Go.Proofs.Ytihhiolflbieaaa.P Go.Proofs.Ytihhiolflbieaaa.B Go.Proofs.Ytihhiolflbieaaa.C Go.Proofs.Ytihhiolflbieaaa.L Go.Proofs.Ytihhiolflbieaaa.A Go.Proofs.Ytihhiolflbieaaa.O Go.Proofs.Ytihhiolflbieaaa.O2 Go.Proofs.Ytihhiolflbieaaa.O3 Go.Proofs.Ytihhiolflbieaaa.R Go.Proofs.YtihhiolflbieaaaW.PrintWords Go.Proofs.YtihhiolflbieaaaW.PrintLast Go.Proofs.YtihhiolflbieaaaW.PrintMore
set_option linter.unusedVariables false
set_option linter.unusedSimpArgs false

theorem whNumber_ev (W : Int) {D : Int} (hD : 2 ≤ D ∧ D ≤ 10) (s : ByteArray) (hs : s.size ≤ 15) (h : isT D s = true) : Ev (fun k => spec_whNumber.f k W D s) (num D (digs s)) := by
  unfold spec_whNumber.f
  refine Ev.bind (whDigits_ev s (by omega)) ?_
  have hd := digs_isD hD h (W := W)
  have hl : (digs s).length ≤ 15 := by rw [digs_len]; exact hs
  generalize digs s = d at *
  refine ev_loop (g := fun j k => spec_whNumber.l0 k (num D (d.take j)) d (d.length : Int) (j : Int) W D) d.length ?_ ?_
  · intro j hj ih
    have b := num_small hD (IsD.take hd j) (by rw [List.length_take]; omega)
    have x := IsD.get hd hj
    have hm : num D (d.take j) * D ≤ num D (d.take j) * 10 := Int.mul_le_mul_of_nonneg_left hD.2 b.1
    have hm0 : 0 ≤ num D (d.take j) * D := Int.mul_nonneg b.1 (by omega)
    refine Ev.succ ?_
    simp only [spec_whNumber.l0, if_pos (show (j : Int) < (d.length : Int) by omega), if_pos (show (0 : Int) ≤ (j : Int) by omega), rd_get d j hj, w64 (x := num D (d.take j) * D) (by omega) (by omega), w64 (x := num D (d.take j) * D + d[j]) (by omega) (by omega), w64 (x := (j : Int) + 1) (by omega) (by omega)]
    rw [List.take_succ_eq_append_getElem hj, num_snoc] at ih
    exact ih
  · refine Ev.succ ?_
    simp only [spec_whNumber.l0, if_neg (show ¬ ((d.length : Nat) : Int) < (d.length : Int) by omega)]
    rw [List.take_of_length_le (Nat.le_refl _)]
    exact Ev.now _

/-- The number of a code. -/
def nu (D : Int) (s : ByteArray) : Int := num D (digs s)
theorem nu_bd {W D : Int} (h : LK W D) {s : ByteArray} (hc : isC W D s = true) : 0 ≤ nu D s ∧ nu D s < cnt W D := by
  obtain ⟨h1, h2, h3⟩ := codeOf h hc
  have := num_bd (show 0 < D by have := LK.d h; omega) _ h2
  rw [h1] at this
  unfold nu cnt
  omega
theorem nu_cod {W D : Int} (h : LK W D) {s : ByteArray} (hc : isC W D s = true) : s = txt (cod D W.toNat (nu D s)) := by
  obtain ⟨h1, h2, h3⟩ := codeOf h hc
  unfold nu
  rw [← h1, cod_num (show 0 < D by have := LK.d h; omega) _ h2, h3]
theorem nu_txt {W D : Int} (h : LK W D) {n : Int} (h0 : 0 ≤ n) (h1 : n < cnt W D) : nu D (txt (cod D W.toNat n)) = n := by
  have hD := LK.d h
  have hD0 : 0 < D := by omega
  unfold nu
  rw [digs_txt (IsD.mono (cod_isD hD0 _ _) hD.2), num_cod hD0]
  exact Int.emod_eq_of_lt h0 h1
theorem cod_isC {W D : Int} (h : LK W D) (n : Int) : isC W D (txt (cod D W.toNat n)) = true := by
  have hD := LK.d h
  obtain ⟨hw, _⟩ := LK.w h
  unfold isC
  rw [txt_isT hD (cod_isD (by omega) _ _), txt_size, cod_len, Bool.and_true]
  exact decide_eq_true hw
end Go.Proofs.Ytihhiolflbieaaa.RS
