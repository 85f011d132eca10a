/- The round order: what the functions answer, told on lists of digits. No conditions. -/
import Derived.Test.YtolgccbgmnlkbaaO2
import Derived.Test.YtolgccbgmnlkbaaPx58
import Derived.Test.YtolgccbgmnlkbaaPx60
import Derived.Test.YtolgccbgmnlkbaaPx61
namespace Go.Proofs.Ytolgccbgmnlkbaa.O3
open Go.RowKit Go.Proofs.Ytolgccbgmnlkbaa.P Go.Proofs.Ytolgccbgmnlkbaa.B Go.Proofs.Ytolgccbgmnlkbaa.C Go.Proofs.Ytolgccbgmnlkbaa.L Go.Proofs.Ytolgccbgmnlkbaa.A Go.Proofs.Ytolgccbgmnlkbaa.O Go.Proofs.Ytolgccbgmnlkbaa.O2 Go.Proofs.YtolgccbgmnlkbaaW.PrintWords Go.Proofs.YtolgccbgmnlkbaaW.PrintLast Go.Proofs.YtolgccbgmnlkbaaW.PrintMore
set_option linter.unusedVariables false
set_option linter.unusedSimpArgs false

theorem code_ev {W D : Int} (h : LK W D) {n : Int} (h0 : 0 ≤ n) (h1 : n ≤ 1000000000) : Ev (fun k => impl_Lock_code.f k W D n) (txt (cod D W.toNat n)) := by
  obtain ⟨hw, hw6, hw0⟩ := LK.w h
  have hD := LK.d h
  have hD0 : 0 < D := by omega
  unfold impl_Lock_code.f
  simp only [if_pos (show 0 ≤ W by omega), if_pos (show W.toNat ≤ 35184372088832 by omega), w64 (x := W - 1) (by omega) (by omega)]
  have key := ev_loop (g := fun j k => impl_Lock_code.l0 k (n / D ^ j) (List.replicate (W.toNat - j) 0 ++ cod D j n) ((W.toNat : Int) - 1 - j) W D) (r := txt (cod D W.toNat n)) W.toNat ?_ ?_
  · rw [Int.pow_zero, Int.ediv_one] at key
    simp only [Nat.sub_zero, cod, List.append_nil, hw] at key
    rw [show W - 1 - ((0 : Nat) : Int) = W - 1 by omega] at key
    exact key
  · intro j hj ih
    have db := div_bd hD0 h0 j
    have db1 := div_bd hD0 h0 (j + 1)
    refine Ev.succ ?_
    have e1 : (List.replicate (W.toNat - j) 0 ++ cod D j n).length = W.toNat := by simp [cod_len]; omega
    have e2 : Int.tdiv (n / D ^ j) D = n / D ^ (j + 1) := by rw [Int.tdiv_eq_ediv_of_nonneg db.1, div_step hD0]
    have e3 : Int.tmod (n / D ^ j) D = n / D ^ j % D := Int.tmod_eq_emod_of_nonneg db.1
    have e4 : ((W.toNat : Int) - 1 - j).toNat = W.toNat - (j + 1) := by omega
    simp only [impl_Lock_code.l0, e1, if_pos (show (W.toNat : Int) - 1 - j ≥ 0 by omega), if_neg (show ¬ D = 0 by omega), if_pos (show (W.toNat : Int) - 1 - j < (W.toNat : Int) by omega), e2, e3, e4,
      w64 (x := n / D ^ (j + 1)) (by omega) (by omega), w64 (x := (W.toNat : Int) - 1 - j - 1) (by omega) (by omega)]
    rw [show W.toNat - j = W.toNat - (j + 1) + 1 by omega, rep_set]
    rw [show (W.toNat : Int) - 1 - j - 1 = (W.toNat : Int) - 1 - ((j + 1 : Nat) : Int) by omega]
    exact ih
  · refine Ev.succ ?_
    simp only [impl_Lock_code.l0, if_neg (show ¬ ((W.toNat : Int) - 1 - (W.toNat : Int) ≥ 0) by omega), Nat.sub_self, List.replicate_zero, List.nil_append]
    exact Ev.bind (text_ev _ (by rw [cod_len]; omega) (IsD.mono (cod_isD hD0 _ _) hD.2)) (Ev.now _)

theorem df_snoc (D : Int) : ∀ (d : List Int) (p : Int) (j : Nat) (hj : j + 1 < d.length), (df D p d)[j + 1]'(by rw [df_len]; exact hj) = (d[j + 1] - d[j]'(by omega)) % D
  | [], _, _, hj => absurd hj (by simp)
  | [x], _, _, hj => absurd hj (by simp)
  | x :: y :: ys, p, 0, hj => rfl
  | x :: y :: ys, p, j + 1, hj => by
    have := df_snoc D (y :: ys) x j (by simpa using hj)
    simpa only [df, List.getElem_cons_succ] using this
theorem take_one {α : Type} : ∀ (l : List α) (h : 0 < l.length), l.take 1 = [l[0]]
  | [], h => absurd h (by simp)
  | x :: xs, _ => rfl
theorem df_head {D : Int} {d : List Int} (hd : IsD D d) (h : 0 < d.length) : (df D 0 d)[0]'(by rw [df_len]; exact h) = d[0] := by
  cases d with
  | nil => exact absurd h (by simp)
  | cons x xs =>
    obtain ⟨⟨h0, h1⟩, _⟩ := IsD.cons hd
    simp only [df, List.getElem_cons_zero, Int.sub_zero, Int.emod_eq_of_lt h0 h1]

theorem round_ev {W D : Int} (h : LK W D) {n : Int} (h0 : 0 ≤ n) (h1 : n ≤ 1000000000) : Ev (fun k => impl_Lock_round.f k W D n) (txt (df D 0 (cod D W.toNat n))) := by
  obtain ⟨hw, hw6, hw0⟩ := LK.w h
  have hD := LK.d h
  have hD0 : 0 < D := by omega
  unfold impl_Lock_round.f
  refine Ev.bind (code_ev h h0 h1) (Ev.bind (digits_ev _ (by rw [txt_size, cod_len]; omega)) ?_)
  have hd : IsD D (cod D W.toNat n) := cod_isD hD0 _ _
  rw [digs_txt (IsD.mono hd hD.2)]
  have hl : (cod D W.toNat n).length = W.toNat := cod_len _ _ _
  generalize cod D W.toNat n = d at *
  have hfl : (df D 0 d).length = d.length := df_len _ _ _
  have hf : IsD D (df D 0 d) := df_isD hD0 _ _
  have key : ∀ i : Nat, i < d.length → Ev (fun k => impl_Lock_round.l0 k (d.take (i + 1) ++ (df D 0 d).drop (i + 1)) (i : Int) W D) (txt (df D 0 d)) := by
    intro i
    induction i with
    | zero =>
      intro hi
      refine Ev.succ ?_
      have e : d.take 1 ++ (df D 0 d).drop 1 = df D 0 d := by
        have h2 := df_head hd hi
        have h3 : d.take 1 = (df D 0 d).take 1 := by
          rw [take_one _ hi, take_one _ (by omega), h2]
        rw [h3, List.take_append_drop]
      rw [e]
      simp only [impl_Lock_round.l0, if_neg (show ¬ (((0 : Nat) : Int) > 0) by omega)]
      exact Ev.bind (text_ev _ (by omega) (IsD.mono hf hD.2)) (Ev.now _)
    | succ i ih =>
      intro hi
      have x := IsD.get hd hi
      have y := IsD.get hd (show i < d.length by omega)
      have hlen : (d.take (i + 1 + 1) ++ (df D 0 d).drop (i + 1 + 1)).length = d.length := by simp [hfl]; omega
      have hlt : (d.take (i + 1 + 1)).length = i + 1 + 1 := by rw [List.length_take]; omega
      have r1 : rd (d.take (i + 1 + 1) ++ (df D 0 d).drop (i + 1 + 1)) ((i + 1 : Nat) : Int) = d[i + 1] := by
        rw [rd_get _ (i + 1) (by omega), List.getElem_append_left (by omega), List.getElem_take]
      have r2 : rd (d.take (i + 1 + 1) ++ (df D 0 d).drop (i + 1 + 1)) (i : Int) = d[i]'(by omega) := by
        rw [rd_get _ i (by omega), List.getElem_append_left (by omega), List.getElem_take]
      have e := df_snoc D d 0 i hi
      refine Ev.succ ?_
      have e1 : ((i + 1 : Nat) : Int) - 1 = (i : Int) := by omega
      simp only [impl_Lock_round.l0, hlen, if_pos (show ((i + 1 : Nat) : Int) > 0 by omega), if_pos (show (0 : Int) ≤ ((i + 1 : Nat) : Int) by omega), if_pos (show ((i + 1 : Nat) : Int) < (d.length : Int) by omega), e1, w64 (x := (i : Int)) (by omega) (by omega),
        if_pos (show (0 : Int) ≤ (i : Int) by omega), if_pos (show (i : Int) < (d.length : Int) by omega), r1, r2, w64 (x := d[i + 1] - d[i]'(by omega)) (by omega) (by omega), around_eq (D := D) (by omega), Option.bind_some]
      have es : (d.take (i + 1 + 1) ++ (df D 0 d).drop (i + 1 + 1)).set ((i + 1 : Nat) : Int).toNat ((d[i + 1] - d[i]'(by omega)) % D) = d.take (i + 1) ++ (df D 0 d).drop (i + 1) := by
        rw [Int.toNat_natCast, List.set_append_left _ _ (by omega), ← e, List.drop_eq_getElem_cons (show i + 1 < (df D 0 d).length by omega), List.take_succ_eq_append_getElem hi, List.set_append_right _ _ (by rw [List.length_take]; omega)]
        rw [List.length_take, show i + 1 - min (i + 1) d.length = 0 by omega, List.set_cons_zero, List.append_assoc]
        rfl
      rw [es]
      exact ih (by omega)
  have := key (d.length - 1) (by omega)
  rw [show d.length - 1 + 1 = d.length by omega, List.take_of_length_le (Nat.le_refl _), List.drop_of_length_le (by omega), List.append_nil] at this
  rw [w64 (x := (d.length : Int) - 1) (by omega) (by omega), show (d.length : Int) - 1 = ((d.length - 1 : Nat) : Int) by omega]
  exact this

theorem orRound_ev {W D : Int} (h : LK W D) {n : Int} (h0 : 0 ≤ n) (h1 : n ≤ 1000000000) : Ev (fun k => spec_orRound.f k W D n) (txt (df D 0 (cod D W.toNat n))) := by
  obtain ⟨hw, hw6, hw0⟩ := LK.w h
  have hD := LK.d h
  have hD0 : 0 < D := by omega
  unfold spec_orRound.f
  refine Ev.bind (whOf_ev h h0 h1) (Ev.bind (whDigits_ev _ (by rw [txt_size, cod_len]; omega)) ?_)
  have hd : IsD D (cod D W.toNat n) := cod_isD hD0 _ _
  rw [digs_txt (IsD.mono hd hD.2)]
  have hl : (cod D W.toNat n).length = W.toNat := cod_len _ _ _
  generalize cod D W.toNat n = d at *
  have hfl : (df D 0 d).length = d.length := df_len _ _ _
  have hf : IsD D (df D 0 d) := df_isD hD0 _ _
  have hp : 0 < d.length := by omega
  simp only [if_pos (show 0 < (d.length : Int) by omega)]
  have e0 : [rd d 0] = (df D 0 d).take 1 := by
    rw [take_one _ (by omega), df_head hd hp]
    exact congrArg (fun x => [x]) (rd_get d 0 hp)
  rw [e0]
  have key : ∀ m i : Nat, d.length - i = m → 1 ≤ i → i ≤ d.length → Ev (fun k => spec_orRound.l0 k d ((df D 0 d).take i) (i : Int) W D) (txt (df D 0 d)) := by
    intro m
    induction m with
    | zero =>
      intro i hm h1 hi
      obtain rfl : i = d.length := by omega
      refine Ev.succ ?_
      rw [List.take_of_length_le (by omega)]
      simp only [spec_orRound.l0, if_neg (show ¬ ((d.length : Nat) : Int) < (d.length : Int) by omega)]
      exact Ev.bind (whText_ev _ (by omega) (IsD.mono hf hD.2)) (Ev.now _)
    | succ m ih =>
      intro i hm h1 hi
      have hi' : i < d.length := by omega
      have x := IsD.get hd hi'
      have y := IsD.get hd (show i - 1 < d.length by omega)
      have e := df_snoc D d 0 (i - 1) (by omega)
      simp only [show i - 1 + 1 = i by omega] at e
      have e1 : (i : Int) - 1 = ((i - 1 : Nat) : Int) := by omega
      have hlt : ((df D 0 d).take i).length = i := by rw [List.length_take]; omega
      refine Ev.succ ?_
      simp only [spec_orRound.l0, if_pos (show (i : Int) < (d.length : Int) by omega), if_pos (show (0 : Int) ≤ (i : Int) by omega), e1, w64 (x := ((i - 1 : Nat) : Int)) (by omega) (by omega), if_pos (show (0 : Int) ≤ ((i - 1 : Nat) : Int) by omega), if_pos (show ((i - 1 : Nat) : Int) < (d.length : Int) by omega),
        rd_get d i hi', rd_get d (i - 1) (by omega), w64 (x := d[i] - d[i - 1]'(by omega)) (by omega) (by omega), l1Mod_eq (D := D) (by omega), Option.bind_some, hlt, if_pos (show i < 17592186044416 by omega), w64 (x := (i : Int) + 1) (by omega) (by omega)]
      have := ih (i + 1) (by omega) (by omega) (by omega)
      rw [List.take_succ_eq_append_getElem (by omega), e] at this
      exact this
  exact key (d.length - 1) 1 rfl (by omega) (by omega)

end Go.Proofs.Ytolgccbgmnlkbaa.O3
