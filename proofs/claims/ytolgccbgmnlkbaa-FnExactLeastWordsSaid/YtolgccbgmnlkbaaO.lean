/- What the functions of the orders answer, told on lists of digits. No conditions. -/
import Derived.Test.YtolgccbgmnlkbaaA
import Derived.Test.YtolgccbgmnlkbaaPx28
import Derived.Test.YtolgccbgmnlkbaaPx40
import Derived.Test.YtolgccbgmnlkbaaPx44
import Derived.Test.YtolgccbgmnlkbaaPx47
import Derived.Test.YtolgccbgmnlkbaaPx51
import Derived.Test.YtolgccbgmnlkbaaPx53
import Derived.Test.YtolgccbgmnlkbaaPx54
namespace Go.Proofs.Ytolgccbgmnlkbaa.O
open Go.RowKit Go.Proofs.Ytolgccbgmnlkbaa.P Go.Proofs.Ytolgccbgmnlkbaa.B Go.Proofs.Ytolgccbgmnlkbaa.C Go.Proofs.Ytolgccbgmnlkbaa.L Go.Proofs.Ytolgccbgmnlkbaa.A Go.Proofs.YtolgccbgmnlkbaaW.PrintWords Go.Proofs.YtolgccbgmnlkbaaW.PrintLast Go.Proofs.YtolgccbgmnlkbaaW.PrintMore
set_option linter.unusedVariables false
set_option linter.unusedSimpArgs false

theorem LK.w {W D : Int} (h : LK W D) : (W.toNat : Int) = W ∧ W.toNat ≤ 6 ∧ 0 < W.toNat := by obtain ⟨h1, h2, _⟩ := h; omega
theorem LK.d {W D : Int} (h : LK W D) : 2 ≤ D ∧ D ≤ 10 := h.2.2

/-! ### Numbers read as codes -/
theorem rep_set (m : Nat) (c : List Int) (v : Int) : (List.replicate (m + 1) 0 ++ c).set m v = List.replicate m 0 ++ v :: c := by
  rw [List.replicate_succ', List.append_assoc, List.set_append_right _ _ (by simp), List.length_replicate, Nat.sub_self]
  rfl

theorem div_step {D : Int} (hD : 0 < D) (n : Int) (j : Nat) : n / D ^ j / D = n / D ^ (j + 1) := by
  rw [Int.pow_succ, Int.ediv_ediv_of_nonneg (Int.le_of_lt (pw_pos hD j))]
theorem div_bd {D : Int} (hD : 0 < D) {n : Int} (h0 : 0 ≤ n) (j : Nat) : 0 ≤ n / D ^ j ∧ n / D ^ j ≤ n := by
  have hp := pw_pos hD j
  exact ⟨Int.ediv_nonneg h0 (by omega), Int.ediv_le_self _ h0⟩

theorem whOf_ev {W D : Int} (h : LK W D) {n : Int} (h0 : 0 ≤ n) (h1 : n ≤ 1000000000) : Ev (fun k => spec_whOf.f k W D n) (txt (cod D W.toNat n)) := by
  obtain ⟨hw, hw6, hw0⟩ := LK.w h
  have hD := LK.d h
  have hD0 : 0 < D := by omega
  unfold spec_whOf.f
  simp only [if_pos (show 0 ≤ W by omega), if_pos (show W.toNat ≤ 35184372088832 by omega), w64 (x := W - 1) (by omega) (by omega)]
  have key := ev_loop (g := fun j k => spec_whOf.l0 k (n / D ^ j) (List.replicate (W.toNat - j) 0 ++ cod D j n) ((W.toNat : Int) - 1 - j) W D) (r := txt (cod D W.toNat n)) W.toNat ?_ ?_
  · rw [Int.pow_zero, Int.ediv_one] at key
    simp only [Nat.sub_zero, cod, List.append_nil, hw] at key
    rw [show W - 1 - ((0 : Nat) : Int) = W - 1 by omega] at key
    exact key
  · intro j hj ih
    have db := div_bd hD0 h0 j
    have db1 := div_bd hD0 h0 (j + 1)
    refine Ev.succ ?_
    have e1 : (List.replicate (W.toNat - j) 0 ++ cod D j n).length = W.toNat := by simp [cod_len]; omega
    have e2 : Int.tdiv (n / D ^ j) D = n / D ^ (j + 1) := by rw [Int.tdiv_eq_ediv_of_nonneg db.1, div_step hD0]
    have e3 : Int.tmod (n / D ^ j) D = n / D ^ j % D := Int.tmod_eq_emod_of_nonneg db.1
    have e4 : ((W.toNat : Int) - 1 - j).toNat = W.toNat - (j + 1) := by omega
    simp only [spec_whOf.l0, e1, if_pos (show (W.toNat : Int) - 1 - j ≥ 0 by omega), if_neg (show ¬ D = 0 by omega), if_pos (show (W.toNat : Int) - 1 - j < (W.toNat : Int) by omega), e2, e3, e4,
      w64 (x := n / D ^ (j + 1)) (by omega) (by omega), w64 (x := (W.toNat : Int) - 1 - j - 1) (by omega) (by omega)]
    rw [show W.toNat - j = W.toNat - (j + 1) + 1 by omega, rep_set]
    rw [show (W.toNat : Int) - 1 - j - 1 = (W.toNat : Int) - 1 - ((j + 1 : Nat) : Int) by omega]
    exact ih
  · refine Ev.succ ?_
    simp only [spec_whOf.l0, if_neg (show ¬ ((W.toNat : Int) - 1 - (W.toNat : Int) ≥ 0) by omega), Nat.sub_self, List.replicate_zero, List.nil_append]
    exact Ev.bind (whText_ev _ (by rw [cod_len]; omega) (IsD.mono (cod_isD hD0 _ _) hD.2)) (Ev.now _)

/-! ### Ranks -/
theorem orRank_ev (W D r : Int) : Ev (fun k => spec_orRank.f k W D r) (decide (LK W D ∧ 0 ≤ r ∧ r < cnt W D)) := by
  unfold spec_orRank.f
  simp only [whGood_eq, Option.bind_some]
  by_cases h : LK W D
  · have b := cnt_bd h
    simp only [decide_eq_true h, if_true]
    refine Ev.bind (whCount_ev h) ?_
    simp only [w64 (x := cnt W D - 1) (by omega) (by omega), l1In_eq, Option.bind_some]
    rw [show decide (0 ≤ r ∧ r ≤ cnt W D - 1) = decide (LK W D ∧ 0 ≤ r ∧ r < cnt W D) by rw [decide_eq_decide]; exact ⟨fun g => ⟨h, by omega, by omega⟩, fun g => ⟨g.2.1, by omega⟩⟩]
    exact Ev.now _
  · simp only [decide_eq_false h, Bool.false_eq_true, if_false]
    rw [show decide (LK W D ∧ 0 ≤ r ∧ r < cnt W D) = false by rw [decide_eq_false_iff_not]; exact fun g => h g.1]
    exact Ev.now _
theorem isRank_ev (W D r : Int) : Ev (fun k => impl_isRank.f k W D r) (decide (LK W D ∧ 0 ≤ r ∧ r < cnt W D)) := by
  unfold impl_isRank.f
  simp only [IsLock_eq, Option.bind_some]
  by_cases h : LK W D
  · have b := cnt_bd h
    simp only [decide_eq_true h, if_true]
    refine Ev.bind (count_ev h) ?_
    simp only [w64 (x := cnt W D - 1) (by omega) (by omega), within_eq, Option.bind_some]
    rw [show decide (0 ≤ r ∧ r ≤ cnt W D - 1) = decide (LK W D ∧ 0 ≤ r ∧ r < cnt W D) by rw [decide_eq_decide]; exact ⟨fun g => ⟨h, by omega, by omega⟩, fun g => ⟨g.2.1, by omega⟩⟩]
    exact Ev.now _
  · simp only [decide_eq_false h, Bool.false_eq_true, if_false]
    rw [show decide (LK W D ∧ 0 ≤ r ∧ r < cnt W D) = false by rw [decide_eq_false_iff_not]; exact fun g => h g.1]
    exact Ev.now _

/-! ### The forth and back order -/
theorem orForth_ev {W D : Int} (h : LK W D) {r : Int} (h0 : 0 ≤ r) (h1 : r < cnt W D) : Ev (fun k => spec_orForth.f k W D r) (txt (fi D W.toNat r)) := by
  obtain ⟨hw, hw6, hw0⟩ := LK.w h
  have hD := LK.d h
  have hD0 : 0 < D := by omega
  have cb := cnt_bd h
  unfold spec_orForth.f
  refine Ev.bind (whOf_ev h h0 (by omega)) (Ev.bind (whDigits_ev _ (by rw [txt_size, cod_len]; omega)) ?_)
  have hd : IsD D (cod D W.toNat r) := cod_isD hD0 _ _
  rw [digs_txt (IsD.mono hd hD.2)]
  have e0 := ff_fi hD0 W.toNat 0 r h0 h1
  simp only [show ¬ ((0 : Int) % 2 = 1) by omega, if_false] at e0
  rw [← e0]
  have hl : (cod D W.toNat r).length = W.toNat := cod_len _ _ _
  have hff : ∀ s, IsD D (ff D s (cod D W.toNat r)) := by
    intro s
    have : ∀ (d : List Int) (s : Int), IsD D d → IsD D (ff D s d) := by
      intro d
      induction d with
      | nil => intro s _; exact IsD.nil
      | cons x xs ih =>
        intro s hx
        obtain ⟨hx, hs⟩ := IsD.cons hx
        refine IsD.mk ?_ (ih _ hs)
        split <;> omega
    exact this _ s hd
  generalize hg : cod D W.toNat r = d at *
  have key : ∀ (m j : Nat) (s : Int) (out : List Int), d.length - j = m → j ≤ d.length → out.length = j → 0 ≤ s → s < 10 ^ j → out ++ ff D s (d.drop j) = ff D 0 d → Ev (fun k => spec_orForth.l0 k d s out d (d.length : Int) (j : Int) W D) (txt (ff D 0 d)) := by
    intro m
    induction m with
    | zero =>
      intro j s out hm hj ho hs0 hs1 he
      obtain rfl : j = d.length := by omega
      rw [List.drop_of_length_le (Nat.le_refl _)] at he
      simp only [ff, List.append_nil] at he
      refine Ev.succ ?_
      simp only [spec_orForth.l0, if_neg (show ¬ ((d.length : Nat) : Int) < (d.length : Int) by omega), he]
      exact Ev.bind (whText_ev _ (by rw [← he]; omega) (IsD.mono (hff 0) hD.2)) (Ev.now _)
    | succ m ih =>
      intro j s out hm hj ho hs0 hs1 he
      have hj' : j < d.length := by omega
      have x := IsD.get hd hj'
      have t15 := ten_le (n := j) (by omega)
      have hb : s * D ≤ s * 10 := Int.mul_le_mul_of_nonneg_left hD.2 hs0
      have hb0 : 0 ≤ s * D := Int.mul_nonneg hs0 (by omega)
      have hnx : s * D + d[j] < 10 ^ (j + 1) := by rw [Int.pow_succ]; omega
      rw [List.drop_eq_getElem_cons hj', ff] at he
      refine Ev.succ ?_
      by_cases hp : s % 2 = 1
      · have ih' := ih (j + 1) (s * D + d[j]) (out ++ [D - 1 - d[j]]) (by omega) (by omega) (by simp [ho]) (by omega) hnx (by rw [List.append_assoc]; rw [if_pos hp] at he; exact he)
        simp only [spec_orForth.l0, if_pos (show (j : Int) < (d.length : Int) by omega), if_pos (show (0 : Int) ≤ (j : Int) by omega), Int.tmod_eq_emod_of_nonneg hs0, if_pos hp, ho, if_pos (show j < 17592186044416 by omega),
          w64 (x := D - 1) (by omega) (by omega), rd_get d j hj', w64 (x := D - 1 - d[j]) (by omega) (by omega), Option.bind_some, List.length_append, List.length_singleton,
          show (((j + 1 : Nat) : Int) - 1) = (j : Int) by omega, w64 (x := (j : Int)) (by omega) (by omega), w64 (x := s * D) (by omega) (by omega), w64 (x := s * D + d[j]) (by omega) (by omega), w64 (x := (j : Int) + 1) (by omega) (by omega)]
        exact ih'
      · have ih' := ih (j + 1) (s * D + d[j]) (out ++ [d[j]]) (by omega) (by omega) (by simp [ho]) (by omega) hnx (by rw [List.append_assoc]; rw [if_neg hp] at he; exact he)
        simp only [spec_orForth.l0, if_pos (show (j : Int) < (d.length : Int) by omega), if_pos (show (0 : Int) ≤ (j : Int) by omega), Int.tmod_eq_emod_of_nonneg hs0, if_neg hp, ho, if_pos (show j < 17592186044416 by omega),
          rd_get d j hj', Option.bind_some, List.length_append, List.length_singleton,
          show (((j + 1 : Nat) : Int) - 1) = (j : Int) by omega, w64 (x := (j : Int)) (by omega) (by omega), w64 (x := s * D) (by omega) (by omega), w64 (x := s * D + d[j]) (by omega) (by omega), w64 (x := (j : Int) + 1) (by omega) (by omega)]
        exact ih'
  have := key d.length 0 0 [] (by omega) (by omega) rfl (by omega) (by simp) (by simp)
  simpa using this

theorem forth_ev {W D : Int} (h : LK W D) {r : Int} (h0 : 0 ≤ r) (h1 : r < cnt W D) : Ev (fun k => impl_Lock_forth.f k W D r) (txt (fi D W.toNat r)) := by
  obtain ⟨hw, hw6, hw0⟩ := LK.w h
  have hD := LK.d h
  have hD0 : 0 < D := by omega
  have cb := cnt_bd h
  unfold impl_Lock_forth.f
  refine Ev.bind (count_ev h) ?_
  have key : ∀ (w i : Nat) (r : Int) (out : List Int), i + w = W.toNat → out.length = i → IsD D out → 0 ≤ r → r < D ^ w → Ev (fun k => impl_Lock_forth.l0 k r out (D ^ w) W (i : Int) W D) (txt (out ++ fi D w r)) := by
    intro w
    induction w with
    | zero =>
      intro i r out hi ho hD' hr0 hr1
      refine Ev.succ ?_
      simp only [impl_Lock_forth.l0, if_neg (show ¬ (i : Int) < W by omega), fi, List.append_nil]
      exact Ev.bind (text_ev _ (by omega) (IsD.mono hD' hD.2)) (Ev.now _)
    | succ w ih =>
      intro i r out hi ho hD' hr0 hr1
      obtain ⟨q0, q1, y0, y1, e⟩ := parts hD0 w hr0 hr1
      have hp := pw_pos hD0 w
      have hp15 := pow15 hD0 hD.2 (n := w) (by omega)
      have hp16 := pow15 hD0 hD.2 (n := w + 1) (by omega)
      have es : Int.tdiv (D ^ (w + 1)) D = D ^ w := by
        rw [Int.tdiv_eq_ediv_of_nonneg (Int.le_of_lt (pw_pos hD0 _)), Int.pow_succ, Int.mul_ediv_cancel _ (by omega)]
      have eq_ : Int.tdiv r (D ^ w) = r / D ^ w := Int.tdiv_eq_ediv_of_nonneg hr0
      have ey_ : Int.tmod r (D ^ w) = r % D ^ w := Int.tmod_eq_emod_of_nonneg hr0
      refine Ev.succ ?_
      simp only [impl_Lock_forth.l0, if_pos (show (i : Int) < W by omega), if_neg (show ¬ D = 0 by omega), es, w64 (x := D ^ w) (by omega) (by omega), if_neg (show ¬ D ^ w = 0 by omega), eq_, ey_,
        w64 (x := r / D ^ w) (by omega) (by omega), Int.tmod_eq_emod_of_nonneg q0, ho, if_pos (show i < 17592186044416 by omega), w64 (x := (i : Int) + 1) (by omega) (by omega), w64 (x := D ^ w - 1) (by omega) (by omega), w64 (x := D ^ w - 1 - r % D ^ w) (by omega) (by omega)]
      simp only [fi]
      have hD2 : IsD D (out ++ [r / D ^ w]) := IsD.append hD' (IsD.mk ⟨q0, q1⟩ IsD.nil)
      by_cases hq : r / D ^ w % 2 = 1
      · simp only [hq, if_true]
        have := ih (i + 1) (D ^ w - 1 - r % D ^ w) (out ++ [r / D ^ w]) (by omega) (by simp [ho]) hD2 (by omega) (by omega)
        rw [List.append_assoc] at this
        exact this
      · simp only [hq, if_false]
        have := ih (i + 1) (r % D ^ w) (out ++ [r / D ^ w]) (by omega) (by simp [ho]) hD2 y0 y1
        rw [List.append_assoc] at this
        exact this
  have := key W.toNat 0 r [] (by omega) rfl IsD.nil h0 h1
  simpa [cnt] using this

/-! ### Ranks in the round order -/
/-- The text of a code, by its digits. -/
theorem codeOf {W D : Int} (h : LK W D) {s : ByteArray} (hc : isC W D s = true) : (digs s).length = W.toNat ∧ IsD D (digs s) ∧ txt (digs s) = s := by
  have z := isC_size hc
  refine ⟨by rw [digs_len]; omega, digs_isD (W := W) (LK.d h) (isC_isT hc), txt_digs (LK.d h) (isC_isT hc)⟩

theorem ps_snoc (D : Int) : ∀ (d : List Int) (s : Int) (j : Nat) (hj : j + 1 < d.length), (ps D s d)[j + 1]'(by rw [ps_len]; exact hj) = ((ps D s d)[j]'(by rw [ps_len]; omega) + d[j + 1]) % D
  | [], _, _, hj => absurd hj (by simp)
  | [x], _, _, hj => absurd hj (by simp)
  | x :: y :: ys, s, 0, hj => rfl
  | x :: y :: ys, s, j + 1, hj => by
    have := ps_snoc D (y :: ys) ((s + x) % D) j (by simpa using hj)
    simpa only [ps, List.getElem_cons_succ] using this

theorem specRoundRank_ev {W D : Int} (h : LK W D) {s : ByteArray} (hc : isC W D s = true) : Ev (fun k => spec_RoundRank.f k W D s) (num D (ps D 0 (digs s)), true) := by
  obtain ⟨hw, hw6, hw0⟩ := LK.w h
  have hD := LK.d h
  have hD0 : 0 < D := by omega
  have z := isC_size hc
  obtain ⟨hl, hd, ht⟩ := codeOf h hc
  unfold spec_RoundRank.f
  refine Ev.bind (whAsked_ev W D s (by omega)) ?_
  simp only [decide_eq_true h, hc, Bool.and_self, if_true]
  refine Ev.bind (whDigits_ev s (by omega)) ?_
  generalize digs s = d at *
  have key : ∀ (m j : Nat) (s r : Int), d.length - j = m → j ≤ d.length → 0 ≤ s → s < D → 0 ≤ r → r < 10 ^ j → r * D ^ m + num D (ps D s (d.drop j)) = num D (ps D 0 d) → Ev (fun k => spec_RoundRank.l0 k s r d (d.length : Int) (j : Int) W D) (num D (ps D 0 d), true) := by
    intro m
    induction m with
    | zero =>
      intro j s r hm hj _ _ hr0 hr1 he
      obtain rfl : j = d.length := by omega
      rw [List.drop_of_length_le (Nat.le_refl _)] at he
      simp only [ps, num, Int.pow_zero, Int.mul_one, Int.add_zero] at he
      refine Ev.succ ?_
      simp only [spec_RoundRank.l0, if_neg (show ¬ ((d.length : Nat) : Int) < (d.length : Int) by omega), he]
      exact Ev.now _
    | succ m ih =>
      intro j s r hm hj hs0 hs1 hr0 hr1 he
      have hj' : j < d.length := by omega
      have x := IsD.get hd hj'
      have t15 := ten_le (n := j) (by omega)
      have hb : r * D ≤ r * 10 := Int.mul_le_mul_of_nonneg_left hD.2 hr0
      have hb0 : 0 ≤ r * D := Int.mul_nonneg hr0 (by omega)
      have e0 := Int.emod_nonneg (s + d[j]) (b := D) (by omega)
      have e1 := Int.emod_lt_of_pos (s + d[j]) hD0
      rw [List.drop_eq_getElem_cons hj', ps, num, ps_len, List.length_drop, show d.length - (j + 1) = m by omega] at he
      refine Ev.succ ?_
      simp only [spec_RoundRank.l0, if_pos (show (j : Int) < (d.length : Int) by omega), if_pos (show (0 : Int) ≤ (j : Int) by omega), if_neg (show ¬ D = 0 by omega), rd_get d j hj', w64 (x := s + d[j]) (by omega) (by omega),
        Int.tmod_eq_emod_of_nonneg (show 0 ≤ s + d[j] by omega), w64 (x := r * D) (by omega) (by omega), w64 (x := r * D + (s + d[j]) % D) (by omega) (by omega), w64 (x := (j : Int) + 1) (by omega) (by omega)]
      refine ih (j + 1) _ _ (by omega) (by omega) e0 e1 (by omega) (by rw [Int.pow_succ]; omega) ?_
      rw [← he, Int.pow_succ, Int.add_mul, Int.mul_assoc, Int.mul_comm D, Int.add_assoc]
  refine key d.length 0 0 0 (by omega) (by omega) (by omega) (by omega) (by omega) (by simp) ?_
  simp

theorem roundRank_ev {W D : Int} (h : LK W D) {s : ByteArray} (hc : isC W D s = true) : Ev (fun k => impl_Lock_roundRank.f k W D s) (num D (ps D 0 (digs s))) := by
  obtain ⟨hw, hw6, hw0⟩ := LK.w h
  have hD := LK.d h
  have hD0 : 0 < D := by omega
  have z := isC_size hc
  obtain ⟨hl, hd, ht⟩ := codeOf h hc
  unfold impl_Lock_roundRank.f
  refine Ev.bind (digits_ev s (by omega)) ?_
  generalize digs s = d at *
  have hpl : (ps D 0 d).length = d.length := ps_len _ _ _
  have hps : IsD D (ps D 0 d) := ps_isD hD0 _ _
  have key : ∀ (m j : Nat), d.length - j = m → 1 ≤ j → j ≤ d.length → Ev (fun k => impl_Lock_roundRank.l0 k ((ps D 0 d).take j ++ d.drop j) (j : Int) W D) (num D (ps D 0 d)) := by
    intro m
    induction m with
    | zero =>
      intro j hm h1 hj
      obtain rfl : j = d.length := by omega
      refine Ev.succ ?_
      rw [List.drop_of_length_le (Nat.le_refl _), List.append_nil, List.take_of_length_le (by omega)]
      simp only [impl_Lock_roundRank.l0, hpl, if_neg (show ¬ ((d.length : Nat) : Int) < (d.length : Int) by omega)]
      refine Ev.bind (text_ev _ (by omega) (IsD.mono hps hD.2)) (Ev.bind (number_ev W hD _ (by rw [txt_size]; omega) (txt_isT hD hps)) ?_)
      rw [digs_txt (IsD.mono hps hD.2)]
      exact Ev.now _
    | succ m ih =>
      intro j hm h1 hj
      have hj' : j < d.length := by omega
      have hlen : ((ps D 0 d).take j ++ d.drop j).length = d.length := by simp [hpl]; omega
      have hlt : ((ps D 0 d).take j).length = j := by rw [List.length_take]; omega
      have x := IsD.get hd hj'
      have y := IsD.get hps (show j - 1 < (ps D 0 d).length by omega)
      have r1 : rd ((ps D 0 d).take j ++ d.drop j) (j : Int) = d[j] := by
        rw [rd_get _ j (by omega), List.getElem_append_right (by omega)]
        simp only [hlt, Nat.sub_self, List.getElem_drop, Nat.add_zero]
      have r2 : rd ((ps D 0 d).take j ++ d.drop j) ((j : Int) - 1) = (ps D 0 d)[j - 1]'(by omega) := by
        rw [show (j : Int) - 1 = ((j - 1 : Nat) : Int) by omega, rd_get _ (j - 1) (by omega), List.getElem_append_left (by omega), List.getElem_take]
      have e := ps_snoc D d 0 (j - 1) (by omega)
      simp only [show j - 1 + 1 = j by omega] at e
      refine Ev.succ ?_
      simp only [impl_Lock_roundRank.l0, hlen, if_pos (show (j : Int) < (d.length : Int) by omega), if_pos (show (0 : Int) ≤ (j : Int) by omega), w64 (x := (j : Int) - 1) (by omega) (by omega), if_pos (show (0 : Int) ≤ (j : Int) - 1 by omega), if_pos (show (j : Int) - 1 < (d.length : Int) by omega),
        r1, r2, w64 (x := d[j] + (ps D 0 d)[j - 1]'(by omega)) (by omega) (by omega), around_eq (D := D) (by omega), Option.bind_some, w64 (x := (j : Int) + 1) (by omega) (by omega)]
      have es : ((ps D 0 d).take j ++ d.drop j).set (j : Int).toNat ((d[j] + (ps D 0 d)[j - 1]'(by omega)) % D) = (ps D 0 d).take (j + 1) ++ d.drop (j + 1) := by
        rw [Int.toNat_natCast, List.set_append_right _ _ (by omega), hlt, Nat.sub_self, List.drop_eq_getElem_cons hj', List.set_cons_zero, List.take_succ_eq_append_getElem (show j < (ps D 0 d).length by omega), List.append_assoc, Int.add_comm, ← e]
        rfl
      rw [es]
      exact ih (j + 1) (by omega) (by omega) (by omega)
  have hh : (ps D 0 d).take 1 ++ d.drop 1 = d := by
    cases d with
    | nil => rfl
    | cons a as_ =>
      obtain ⟨⟨a0, a1⟩, _⟩ := IsD.cons hd
      simp only [ps, List.take_succ_cons, List.take_zero, List.drop_succ_cons, List.drop_zero, Int.zero_add, Int.emod_eq_of_lt a0 a1, List.cons_append, List.nil_append]
  have := key (d.length - 1) 1 rfl (by omega) (by omega)
  rw [hh] at this
  exact this

end Go.Proofs.Ytolgccbgmnlkbaa.O
