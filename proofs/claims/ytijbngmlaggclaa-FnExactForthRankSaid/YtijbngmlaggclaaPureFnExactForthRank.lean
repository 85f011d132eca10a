/- The plain statement behind the law FnExactForthRank: whatever the input, the law's Lean function answers true. Conditions: none but the sizes that the row gives. -/
import Derived.Test.YtijbngmlaggclaaPx0
import Derived.Test.YtijbngmlaggclaaPx1
import Derived.Test.YtijbngmlaggclaaPx7
namespace Go.Proofs.Ytijbngmlaggclaa.B
open Go.RowKit Go.Proofs.Ytijbngmlaggclaa.P Go.Proofs.YtijbngmlaggclaaW.PrintWords Go.Proofs.YtijbngmlaggclaaW.PrintLast Go.Proofs.YtijbngmlaggclaaW.PrintMore
set_option linter.unusedVariables false
set_option linter.unusedSimpArgs false
theorem w64 {x : Int} (h0 : -9223372036854775808 ≤ x) (h1 : x ≤ 9223372036854775807) : wrap64 x = x := by unfold wrap64; omega
theorem ev_loop {α : Type} {g : Nat → Nat → Option α} {r : α} (n : Nat) (step : ∀ j, j < n → Ev (g (j + 1)) r → Ev (g j) r) (fin : Ev (g n) r) : Ev (g 0) r := by
  have : ∀ d, d ≤ n → Ev (g (n - d)) r := by
    intro d
    induction d with
    | zero => intro _; exact fin
    | succ d ih =>
      intro hd
      have := step (n - (d + 1)) (by omega)
      rw [show n - (d + 1) + 1 = n - d by omega] at this
      exact this (ih (by omega))
  have := this n (Nat.le_refl n)
  rwa [Nat.sub_self] at this
/-- Behind the loop's rounds the answer may differ from round to round (an early return). -/
theorem ev_down {α : Type} {g : Nat → Nat → Option α} {R : Nat → α} (n : Nat) (step : ∀ j, j < n → Ev (g (j + 1)) (R (j + 1)) → Ev (g j) (R j)) (fin : Ev (g n) (R n)) : Ev (g 0) (R 0) := by
  have : ∀ d, d ≤ n → Ev (g (n - d)) (R (n - d)) := by
    intro d
    induction d with
    | zero => intro _; exact fin
    | succ d ih =>
      intro hd
      have := step (n - (d + 1)) (by omega)
      rw [show n - (d + 1) + 1 = n - d by omega] at this
      exact this (ih (by omega))
  have := this n (Nat.le_refl n)
  rwa [Nat.sub_self] at this
theorem ev_ex {g : Nat → Option Bool} (h : Ev g true) : ∃ k, g k = some true := h.rounds
def LK (W D : Int) : Prop := 1 ≤ W ∧ W ≤ 6 ∧ 2 ≤ D ∧ D ≤ 10
instance (W D : Int) : Decidable (LK W D) := by unfold LK; infer_instance
theorem l1In_eq (a b c : Int) : spec_l1In.f a b c = some (decide (b ≤ a ∧ a ≤ c)) := by
  unfold spec_l1In.f
  by_cases h : a ≥ b
  · rw [if_pos h]; congr 1; rw [decide_eq_decide]; omega
  · rw [if_neg h]; congr 1; symm; rw [decide_eq_false_iff_not]; omega
theorem within_eq (a b c : Int) : impl_within.f a b c = some (decide (b ≤ a ∧ a ≤ c)) := by
  unfold impl_within.f
  by_cases h : b ≤ a
  · rw [if_pos h]; congr 1; rw [decide_eq_decide]; omega
  · rw [if_neg h]; congr 1; symm; rw [decide_eq_false_iff_not]; omega
theorem whGood_eq (W D : Int) : spec_whGood.f W D = some (decide (LK W D)) := by
  unfold spec_whGood.f
  rw [l1In_eq, Option.bind_some, l1In_eq, Option.bind_some]
  by_cases h : 1 ≤ W ∧ W ≤ 6
  · rw [if_pos (decide_eq_true h)]; congr 1; rw [decide_eq_decide]; unfold LK; omega
  · rw [if_neg (by rw [decide_eq_false h]; decide)]; congr 1; symm; rw [decide_eq_false_iff_not]; unfold LK; omega
theorem IsLock_eq (W D : Int) : impl_IsLock.f W D = some (decide (LK W D)) := by
  unfold impl_IsLock.f
  rw [within_eq, Option.bind_some, within_eq, Option.bind_some]
  by_cases h : 1 ≤ W ∧ W ≤ 6
  · rw [if_pos (decide_eq_true h)]; congr 1; rw [decide_eq_decide]; unfold LK; omega
  · rw [if_neg (by rw [decide_eq_false h]; decide)]; congr 1; symm; rw [decide_eq_false_iff_not]; unfold LK; omega
end Go.Proofs.Ytijbngmlaggclaa.B
namespace Go.Proofs.Ytijbngmlaggclaa.C
open Go.RowKit Go.Proofs.Ytijbngmlaggclaa.P Go.Proofs.Ytijbngmlaggclaa.B Go.Proofs.YtijbngmlaggclaaW.PrintWords Go.Proofs.YtijbngmlaggclaaW.PrintLast Go.Proofs.YtijbngmlaggclaaW.PrintMore
set_option linter.unusedVariables false
set_option linter.unusedSimpArgs false
theorem Ev.succ {α : Type} {g : Nat → Option α} {r : α} (h : Ev (fun k => g (k + 1)) r) : Ev g r := Ev.step (fun _ => rfl) h
theorem bt_nat (s : ByteArray) (j : Nat) (h : j < s.data.toList.length) : bt s (j : Int) = ((s.data.toList[j]).toNat : Int) := by
  have h' : j < s.size := by rw [Array.length_toList] at h; exact h
  unfold bt
  rw [dif_pos (by rw [Int.toNat_natCast]; exact h')]
  simp only [Int.toNat_natCast, Array.getElem_toList]
  rfl
theorem size_len (s : ByteArray) : s.size = s.data.toList.length := by rw [Array.length_toList]; rfl
def dg (D : Int) (b : UInt8) : Bool := decide (48 ≤ (b.toNat : Int) ∧ (b.toNat : Int) < 48 + D)
def isT (D : Int) (s : ByteArray) : Bool := s.data.toList.all (dg D)
def isC (W D : Int) (s : ByteArray) : Bool := decide ((s.size : Int) = W) && isT D s
theorem drop_all {α : Type} (p : α → Bool) (l : List α) (j : Nat) (h : j < l.length) : (l.drop j).all p = (p l[j] && (l.drop (j + 1)).all p) := by
  rw [List.drop_eq_getElem_cons h, List.all_cons]
theorem isText_ev (W : Int) {D : Int} (hD : 2 ≤ D ∧ D ≤ 10) (s : ByteArray) (hs : s.size ≤ 140737488351232) : Ev (fun k => impl_Lock_isText.f k W D s) (isT D s) := by
  unfold impl_Lock_isText.f isT
  refine ev_down (g := fun j k => impl_Lock_isText.l0 k s (s.size : Int) (j : Int) W D) (R := fun j => (s.data.toList.drop j).all (dg D)) s.size ?_ ?_
  · intro j hj ih
    have hl : j < s.data.toList.length := by rw [← size_len]; exact hj
    have hb := bt_nat s j hl
    have hb2 : (s.data.toList[j]).toNat < 256 := UInt8.toNat_lt _
    refine Ev.succ ?_
    simp only [impl_Lock_isText.l0, if_pos (show (j : Int) < (s.size : Int) by omega), if_pos (show (0 : Int) ≤ (j : Int) by omega), within_eq, Option.bind_some,
      w64 (x := bt s j) (by omega) (by omega), w64 (x := 48 + D) (by omega) (by omega), w64 (x := 48 + D - 1) (by omega) (by omega), w64 (x := (j : Int) + 1) (by omega) (by omega)]
    rw [drop_all _ _ _ hl]
    by_cases h : 48 ≤ bt s j ∧ bt s j ≤ 48 + D - 1
    · have e : dg D s.data.toList[j] = true := by unfold dg; exact decide_eq_true (by omega)
      simp only [decide_eq_true h, if_true, e, Bool.true_and]
      exact ih
    · have e : dg D s.data.toList[j] = false := by unfold dg; exact decide_eq_false (by omega)
      simp only [decide_eq_false h, e, Bool.false_and, Bool.false_eq_true, if_false]
      exact Ev.now _
  · refine Ev.succ ?_
    simp only [impl_Lock_isText.l0, if_neg (show ¬ ((s.size : Nat) : Int) < (s.size : Int) by omega)]
    rw [List.drop_of_length_le (by rw [← size_len]; exact Nat.le_refl _)]
    exact Ev.now _
theorem isCode_ev {W D : Int} (hD : 2 ≤ D ∧ D ≤ 10) (s : ByteArray) (hs : s.size ≤ 140737488351232) : Ev (fun k => impl_Lock_isCode.f k W D s) (isC W D s) := by
  unfold impl_Lock_isCode.f isC
  by_cases h : (s.size : Int) = W
  · simp only [if_pos h, decide_eq_true h, Bool.true_and]
    exact Ev.bind (isText_ev W hD s hs) (Ev.now _)
  · simp only [if_neg h, decide_eq_false h, Bool.false_and]
    exact Ev.now _
theorem whCode_ev {W D : Int} (hD : 2 ≤ D ∧ D ≤ 10) (s : ByteArray) (hs : s.size ≤ 140737488351232) : Ev (fun k => spec_whCode.f k W D s) (isC W D s) := by
  unfold spec_whCode.f isC
  by_cases h : (s.size : Int) = W
  · simp only [if_pos h, decide_eq_true h, Bool.true_and]
    unfold isT
    refine ev_down (g := fun j k => spec_whCode.l0 k s (j : Int) W D) (R := fun j => (s.data.toList.drop j).all (dg D)) s.size ?_ ?_
    · intro j hj ih
      have hl : j < s.data.toList.length := by rw [← size_len]; exact hj
      have hb := bt_nat s j hl
      have hb2 : (s.data.toList[j]).toNat < 256 := UInt8.toNat_lt _
      refine Ev.succ ?_
      simp only [spec_whCode.l0, if_pos (show (j : Int) < (s.size : Int) by omega), if_pos (show (0 : Int) ≤ (j : Int) by omega), l1In_eq, Option.bind_some,
        w64 (x := bt s j) (by omega) (by omega), w64 (x := bt s j - 48) (by omega) (by omega), w64 (x := D - 1) (by omega) (by omega), w64 (x := (j : Int) + 1) (by omega) (by omega)]
      rw [drop_all _ _ _ hl]
      by_cases h : 0 ≤ bt s j - 48 ∧ bt s j - 48 ≤ D - 1
      · have e : dg D s.data.toList[j] = true := by unfold dg; exact decide_eq_true (by omega)
        simp only [decide_eq_true h, if_true, e, Bool.true_and]
        exact ih
      · have e : dg D s.data.toList[j] = false := by unfold dg; exact decide_eq_false (by omega)
        simp only [decide_eq_false h, e, Bool.false_and, Bool.false_eq_true, if_false]
        exact Ev.now _
    · refine Ev.succ ?_
      simp only [spec_whCode.l0, if_neg (show ¬ ((s.size : Nat) : Int) < (s.size : Int) by omega)]
      rw [List.drop_of_length_le (by rw [← size_len]; exact Nat.le_refl _)]
      exact Ev.now _
  · simp only [if_neg h, decide_eq_false h, Bool.false_and]
    exact Ev.now _
theorem whAsked_ev (W D : Int) (s : ByteArray) (hs : s.size ≤ 140737488351232) : Ev (fun k => spec_whAsked.f k W D s) (decide (LK W D) && isC W D s) := by
  unfold spec_whAsked.f
  simp only [whGood_eq, Option.bind_some]
  by_cases h : LK W D
  · simp only [decide_eq_true h, if_true, Bool.true_and]
    exact Ev.bind (whCode_ev h.2.2 s hs) (Ev.now _)
  · simp only [decide_eq_false h, Bool.false_eq_true, if_false, Bool.false_and]
    exact Ev.now _
/-- A lock, and texts that are codes of it. -/
theorem has_ev (W D : Int) (l : List ByteArray) (hl : l.length ≤ 140737488351232) (hs : ∀ s ∈ l, s.size ≤ 140737488351232) : Ev (fun k => impl_has.f k W D l) (decide (LK W D) && l.all (isC W D)) := by
  unfold impl_has.f
  simp only [IsLock_eq, Option.bind_some]
  by_cases h : LK W D
  · simp only [decide_eq_true h, if_true, Bool.true_and]
    refine ev_down (g := fun j k => impl_has.l0 k l (l.length : Int) (j : Int) W D) (R := fun j => (l.drop j).all (isC W D)) l.length ?_ ?_
    · intro j hj ih
      refine Ev.succ ?_
      have e : rdOf ByteArray.empty l (j : Int) = l[j] := by unfold rdOf; rw [Int.toNat_natCast, List.getD_eq_getElem?_getD, List.getElem?_eq_getElem hj]; rfl
      simp only [impl_has.l0, if_pos (show (j : Int) < (l.length : Int) by omega), if_pos (show (0 : Int) ≤ (j : Int) by omega), w64 (x := (j : Int) + 1) (by omega) (by omega), e]
      refine Ev.bind (isCode_ev h.2.2 l[j] (hs _ (List.getElem_mem hj))) ?_
      rw [drop_all _ _ _ hj]
      by_cases c : isC W D l[j] = true
      · simp only [c, if_true, Bool.true_and]; exact ih
      · rw [Bool.not_eq_true] at c
        simp only [c, Bool.false_and, Bool.false_eq_true, if_false]
        exact Ev.now _
    · refine Ev.succ ?_
      simp only [impl_has.l0, if_neg (show ¬ ((l.length : Nat) : Int) < (l.length : Int) by omega)]
      rw [List.drop_of_length_le (Nat.le_refl _)]
      exact Ev.now _
  · simp only [decide_eq_false h, Bool.false_eq_true, if_false, Bool.false_and]
    exact Ev.now _
def digs (s : ByteArray) : List Int := s.data.toList.map fun b => ((b.toNat : Int) - 48) % 256
def txt (d : List Int) : ByteArray := strOfNums (d.map fun n => (48 + n) % 256)
/-- Digits of a lock. -/
def IsD (D : Int) (d : List Int) : Prop := ∀ x ∈ d, 0 ≤ x ∧ x < D
theorem digs_len (s : ByteArray) : (digs s).length = s.size := by unfold digs; rw [List.length_map, size_len]
theorem digs_get (s : ByteArray) (j : Nat) (h : j < (digs s).length) : (digs s)[j] = (bt s j - 48) % 256 := by
  unfold digs at h ⊢
  rw [List.length_map] at h
  rw [List.getElem_map, bt_nat s j h]
theorem rd_get (l : List Int) (j : Nat) (h : j < l.length) : rd l (j : Int) = l[j] := by
  unfold rd; rw [Int.toNat_natCast, List.getD_eq_getElem?_getD, List.getElem?_eq_getElem h]; rfl
theorem digs_isD {W D : Int} (hD : 2 ≤ D ∧ D ≤ 10) {s : ByteArray} (h : isT D s = true) : IsD D (digs s) := by
  intro x hx
  unfold isT at h
  rw [List.all_eq_true] at h
  obtain ⟨b, hb, rfl⟩ := List.mem_map.mp hx
  have := of_decide_eq_true (h b hb)
  omega
theorem isC_size {W D : Int} {s : ByteArray} (h : isC W D s = true) : (s.size : Int) = W := by
  unfold isC at h; rw [Bool.and_eq_true] at h; exact of_decide_eq_true h.1
theorem isC_isT {W D : Int} {s : ByteArray} (h : isC W D s = true) : isT D s = true := by
  unfold isC at h; rw [Bool.and_eq_true] at h; exact h.2
theorem txt_digs {D : Int} (hD : 2 ≤ D ∧ D ≤ 10) {s : ByteArray} (h : isT D s = true) : txt (digs s) = s := by
  unfold txt digs strOfNums
  rw [List.map_map, List.map_map]
  have : s.data.toList.map (((fun n : Int => UInt8.ofNat n.toNat) ∘ (fun n : Int => (48 + n) % 256)) ∘ fun b : UInt8 => ((b.toNat : Int) - 48) % 256) = s.data.toList := by
    conv => rhs; rw [← List.map_id s.data.toList]
    refine List.map_congr_left fun b hb => ?_
    unfold isT at h
    rw [List.all_eq_true] at h
    have := of_decide_eq_true (h b hb)
    simp only [Function.comp, id]
    rw [show (48 + ((b.toNat : Int) - 48) % 256) % 256 = (b.toNat : Int) by omega, Int.toNat_natCast, UInt8.ofNat_toNat]
  rw [this]
theorem whDigits_ev (s : ByteArray) (hs : s.size ≤ 10000000000) : Ev (fun k => spec_whDigits.f k s) (digs s) := by
  unfold spec_whDigits.f
  refine ev_loop (g := fun j k => spec_whDigits.l0 k s ((digs s).take j) (j : Int)) s.size ?_ ?_
  · intro j hj ih
    have hl : j < (digs s).length := by rw [digs_len]; exact hj
    refine Ev.succ ?_
    have ht : ((digs s).take j).length = j := by rw [List.length_take]; omega
    simp only [spec_whDigits.l0, if_pos (show (j : Int) < (s.size : Int) by omega), if_pos (show (0 : Int) ≤ (j : Int) by omega), ht, if_pos (show j < 17592186044416 by omega), w64 (x := (j : Int) + 1) (by omega) (by omega)]
    rw [List.take_succ_eq_append_getElem hl, digs_get s j hl] at ih
    exact ih
  · refine Ev.succ ?_
    simp only [spec_whDigits.l0, if_neg (show ¬ ((s.size : Nat) : Int) < (s.size : Int) by omega)]
    rw [List.take_of_length_le (by rw [digs_len]; exact Nat.le_refl _)]
    exact Ev.now _
theorem digits_ev (s : ByteArray) (hs : s.size ≤ 10000000000) : Ev (fun k => impl_digits.f k s) (digs s) := by
  unfold impl_digits.f
  refine ev_loop (g := fun j k => impl_digits.l0 k s ((digs s).take j) (s.size : Int) (j : Int)) s.size ?_ ?_
  · intro j hj ih
    have hl : j < (digs s).length := by rw [digs_len]; exact hj
    refine Ev.succ ?_
    have ht : ((digs s).take j).length = j := by rw [List.length_take]; omega
    simp only [impl_digits.l0, if_pos (show (j : Int) < (s.size : Int) by omega), if_pos (show (0 : Int) ≤ (j : Int) by omega), ht, if_pos (show j < 17592186044416 by omega), w64 (x := (j : Int) + 1) (by omega) (by omega)]
    rw [List.take_succ_eq_append_getElem hl, digs_get s j hl] at ih
    exact ih
  · refine Ev.succ ?_
    simp only [impl_digits.l0, if_neg (show ¬ ((s.size : Nat) : Int) < (s.size : Int) by omega)]
    rw [List.take_of_length_le (by rw [digs_len]; exact Nat.le_refl _)]
    exact Ev.now _
end Go.Proofs.Ytijbngmlaggclaa.C
namespace Go.Proofs.Ytijbngmlaggclaa.L
open Go.Proofs.Ytijbngmlaggclaa.C
set_option linter.unusedVariables false
set_option linter.unusedSimpArgs false
theorem pw_pos {D : Int} (h : 0 < D) : ∀ n : Nat, 0 < D ^ n
  | 0 => by simp
  | n + 1 => by rw [Int.pow_succ]; exact Int.mul_pos (pw_pos h n) h
theorem IsD.cons {D x : Int} {xs : List Int} (h : IsD D (x :: xs)) : (0 ≤ x ∧ x < D) ∧ IsD D xs := ⟨h x (List.mem_cons_self ..), fun y hy => h y (List.mem_cons_of_mem _ hy)⟩
theorem par_mul {s D : Int} (h : s % 2 = 1) : (s * D) % 2 = D % 2 := by
  rw [Int.mul_emod, h, Int.one_mul, Int.emod_emod_of_dvd _ (Int.dvd_refl 2)]
theorem par_mul0 {s D : Int} (h : ¬ s % 2 = 1) : (s * D) % 2 = 0 := by
  rw [Int.mul_emod, show s % 2 = 0 by omega, Int.zero_mul]; rfl
def fr (D : Int) : Int → List Int → Int
  | r, [] => r
  | r, x :: xs => fr D (r * D + (if r % 2 = 1 then D - 1 - x else x)) xs
def fb (D : Int) : List Int → Int
  | [] => 0
  | x :: xs => x * D ^ xs.length + (if x % 2 = 1 then D ^ xs.length - 1 - fb D xs else fb D xs)
theorem fb_bd {D : Int} (hD : 0 < D) : ∀ d : List Int, IsD D d → 0 ≤ fb D d ∧ fb D d + 1 ≤ D ^ d.length
  | [], _ => by simp [fb]
  | x :: xs, h => by
    obtain ⟨⟨h0, h1⟩, hs⟩ := IsD.cons h
    have ih := fb_bd hD xs hs
    have hp := pw_pos hD xs.length
    have a : x * D ^ xs.length ≤ (D - 1) * D ^ xs.length := Int.mul_le_mul_of_nonneg_right (by omega) (by omega)
    have b : 0 ≤ x * D ^ xs.length := Int.mul_nonneg h0 (by omega)
    have c : (D - 1) * D ^ xs.length = D ^ xs.length * D - D ^ xs.length := by rw [Int.sub_mul, Int.one_mul, Int.mul_comm]
    simp only [fb, List.length_cons, Int.pow_succ]
    split <;> omega
theorem fr_fb {D : Int} (hD : 0 < D) : ∀ (d : List Int) (r : Int), fr D r d = r * D ^ d.length + (if r % 2 = 1 then D ^ d.length - 1 - fb D d else fb D d)
  | [], r => by simp [fr, fb]
  | x :: xs, r => by
    simp only [fr, fb, List.length_cons]
    rw [fr_fb hD xs, Int.pow_succ]
    generalize D ^ xs.length = P
    have e1 : (r * D + (if r % 2 = 1 then D - 1 - x else x)) * P = r * (P * D) + (if r % 2 = 1 then P * D - P - x * P else x * P) := by
      rw [Int.add_mul, Int.mul_assoc, Int.mul_comm D P]
      congr 1
      split
      · rw [Int.sub_mul, Int.sub_mul, Int.one_mul, Int.mul_comm D P]
      · rfl
    rw [e1]
    by_cases hr : r % 2 = 1
    · have pm := par_mul (D := D) hr
      simp only [hr, if_true]
      by_cases hx : x % 2 = 1
      · rw [if_neg (by omega), if_pos hx]; omega
      · rw [if_pos (by omega), if_neg hx]; omega
    · have pm := par_mul0 (D := D) hr
      simp only [hr, if_false]
      by_cases hx : x % 2 = 1
      · rw [if_pos (by omega), if_pos hx]; omega
      · rw [if_neg (by omega), if_neg hx]; omega
end Go.Proofs.Ytijbngmlaggclaa.L
namespace Go.Proofs.Ytijbngmlaggclaa.A
open Go.RowKit Go.Proofs.Ytijbngmlaggclaa.P Go.Proofs.Ytijbngmlaggclaa.B Go.Proofs.Ytijbngmlaggclaa.C Go.Proofs.Ytijbngmlaggclaa.L Go.Proofs.YtijbngmlaggclaaW.PrintWords Go.Proofs.YtijbngmlaggclaaW.PrintLast Go.Proofs.YtijbngmlaggclaaW.PrintMore
set_option linter.unusedVariables false
set_option linter.unusedSimpArgs false
theorem pow_le {D : Int} (h0 : 0 < D) (h : D ≤ 10) : ∀ n : Nat, D ^ n ≤ 10 ^ n
  | 0 => by simp
  | n + 1 => by
    rw [Int.pow_succ, Int.pow_succ]
    have a := pow_le h0 h n
    have p := pw_pos h0 n
    have b : D ^ n * D ≤ D ^ n * 10 := Int.mul_le_mul_of_nonneg_left h (by omega)
    omega
theorem ten_le {n : Nat} (h : n ≤ 15) : (10 : Int) ^ n ≤ 1000000000000000 := by
  have : ((List.range 16).all fun n => decide ((10 : Int) ^ n ≤ 1000000000000000)) = true := by decide +kernel
  rw [List.all_eq_true] at this
  exact of_decide_eq_true (this n (List.mem_range.mpr (by omega)))
theorem pow15 {D : Int} (h0 : 0 < D) (h : D ≤ 10) {n : Nat} (hn : n ≤ 15) : D ^ n ≤ 1000000000000000 := Int.le_trans (pow_le h0 h n) (ten_le hn)
theorem IsD.drop {D : Int} {d : List Int} (h : IsD D d) (j : Nat) : IsD D (d.drop j) := fun x hx => h x (List.mem_of_mem_drop hx)
theorem IsD.get {D : Int} {d : List Int} (h : IsD D d) {j : Nat} (hj : j < d.length) : 0 ≤ d[j] ∧ d[j] < D := h _ (List.getElem_mem hj)
end Go.Proofs.Ytijbngmlaggclaa.A
namespace Go.Proofs.Ytijbngmlaggclaa.O
open Go.RowKit Go.Proofs.Ytijbngmlaggclaa.P Go.Proofs.Ytijbngmlaggclaa.B Go.Proofs.Ytijbngmlaggclaa.C Go.Proofs.Ytijbngmlaggclaa.L Go.Proofs.Ytijbngmlaggclaa.A Go.Proofs.YtijbngmlaggclaaW.PrintWords Go.Proofs.YtijbngmlaggclaaW.PrintLast Go.Proofs.YtijbngmlaggclaaW.PrintMore
set_option linter.unusedVariables false
set_option linter.unusedSimpArgs false
theorem LK.w {W D : Int} (h : LK W D) : (W.toNat : Int) = W ∧ W.toNat ≤ 6 ∧ 0 < W.toNat := by obtain ⟨h1, h2, _⟩ := h; omega
theorem LK.d {W D : Int} (h : LK W D) : 2 ≤ D ∧ D ≤ 10 := h.2.2
/-- The text of a code, by its digits. -/
theorem codeOf {W D : Int} (h : LK W D) {s : ByteArray} (hc : isC W D s = true) : (digs s).length = W.toNat ∧ IsD D (digs s) ∧ txt (digs s) = s := by
  have z := isC_size hc
  refine ⟨by rw [digs_len]; omega, digs_isD (W := W) (LK.d h) (isC_isT hc), txt_digs (LK.d h) (isC_isT hc)⟩
end Go.Proofs.Ytijbngmlaggclaa.O
namespace Go.Proofs.Ytijbngmlaggclaa.OF
open Go.RowKit Go.Proofs.Ytijbngmlaggclaa.P Go.Proofs.Ytijbngmlaggclaa.B Go.Proofs.Ytijbngmlaggclaa.C Go.Proofs.Ytijbngmlaggclaa.L Go.Proofs.Ytijbngmlaggclaa.A Go.Proofs.Ytijbngmlaggclaa.O Go.Proofs.YtijbngmlaggclaaW.PrintWords Go.Proofs.YtijbngmlaggclaaW.PrintLast Go.Proofs.YtijbngmlaggclaaW.PrintMore
set_option linter.unusedVariables false
set_option linter.unusedSimpArgs false
theorem has1 (W D : Int) (s : ByteArray) (hs : s.size ≤ 140737488351232) : Ev (fun k => impl_has.f k W D [s]) (decide (LK W D) && isC W D s) := by
  have := has_ev W D [s] (by simp) (by intro x hx; rw [List.mem_singleton.mp hx]; exact hs)
  simpa using this
theorem specForthRank_ev {W D : Int} (h : LK W D) {s : ByteArray} (hc : isC W D s = true) : Ev (fun k => spec_ForthRank.f k W D s) (fb D (digs s), true) := by
  obtain ⟨hw, hw6, hw0⟩ := LK.w h
  have hD := LK.d h
  have hD0 : 0 < D := by omega
  have z := isC_size hc
  obtain ⟨hl, hd, ht⟩ := codeOf h hc
  unfold spec_ForthRank.f
  refine Ev.bind (whAsked_ev W D s (by omega)) ?_
  simp only [decide_eq_true h, hc, Bool.and_self, if_true]
  refine Ev.bind (whDigits_ev s (by omega)) ?_
  have e0 : fb D (digs s) = fr D 0 (digs s) := by rw [fr_fb hD0]; simp
  rw [e0]
  clear e0 ht
  generalize digs s = d at *
  have key : ∀ (m j : Nat) (r : Int), d.length - j = m → j ≤ d.length → 0 ≤ r → r < 10 ^ j → fr D r (d.drop j) = fr D 0 d → Ev (fun k => spec_ForthRank.l0 k r d (d.length : Int) (j : Int) W D) (fr D 0 d, true) := by
    intro m
    induction m with
    | zero =>
      intro j r hm hj hr0 hr1 he
      obtain rfl : j = d.length := by omega
      rw [List.drop_of_length_le (Nat.le_refl _)] at he
      simp only [fr] at he
      refine Ev.succ ?_
      simp only [spec_ForthRank.l0, if_neg (show ¬ ((d.length : Nat) : Int) < (d.length : Int) by omega), he]
      exact Ev.now _
    | succ m ih =>
      intro j r hm hj hr0 hr1 he
      have hj' : j < d.length := by omega
      have x := IsD.get hd hj'
      have t15 := ten_le (n := j) (by omega)
      have hb : r * D ≤ r * 10 := Int.mul_le_mul_of_nonneg_left hD.2 hr0
      have hb0 : 0 ≤ r * D := Int.mul_nonneg hr0 (by omega)
      rw [List.drop_eq_getElem_cons hj', fr] at he
      have pa : Int.tmod r 2 = r % 2 := Int.tmod_eq_emod_of_nonneg hr0
      refine Ev.succ ?_
      simp only [spec_ForthRank.l0, if_pos (show (j : Int) < (d.length : Int) by omega), if_pos (show (0 : Int) ≤ (j : Int) by omega), rd_get d j hj', pa, w64 (x := (j : Int) + 1) (by omega) (by omega)]
      by_cases hp : r % 2 = 1
      · rw [if_pos hp] at he
        simp only [hp, if_true, w64 (x := D - 1) (by omega) (by omega), w64 (x := D - 1 - d[j]) (by omega) (by omega), w64 (x := r * D) (by omega) (by omega), w64 (x := r * D + (D - 1 - d[j])) (by omega) (by omega)]
        exact ih (j + 1) _ (by omega) (by omega) (by omega) (by rw [Int.pow_succ]; omega) he
      · rw [if_neg hp] at he
        simp only [hp, if_false, w64 (x := r * D) (by omega) (by omega), w64 (x := r * D + d[j]) (by omega) (by omega)]
        exact ih (j + 1) _ (by omega) (by omega) (by omega) (by rw [Int.pow_succ]; omega) he
  exact key d.length 0 0 (by omega) (by omega) (by omega) (by omega) (by simp)
theorem fold_fb {D : Int} (hD : 2 ≤ D ∧ D ≤ 10) : ∀ d : List Int, IsD D d → d.length ≤ 14 → d.reverse.foldl (impl_Lock_forthRank.stp D) (0, 1) = (fb D d, D ^ d.length)
  | [], _, _ => by simp [fb]
  | x :: xs, h, hl => by
    obtain ⟨⟨h0, h1⟩, hs⟩ := IsD.cons h
    rw [List.length_cons] at hl
    have ih := fold_fb hD xs hs (by omega)
    have b := fb_bd (show 0 < D by omega) xs hs
    have p15 := pow15 (show 0 < D by omega) hD.2 (show xs.length ≤ 15 by omega)
    have p16 := pow15 (show 0 < D by omega) hD.2 (show xs.length + 1 ≤ 15 by omega)
    have hp := pw_pos (show 0 < D by omega) xs.length
    have a : x * D ^ xs.length ≤ (D - 1) * D ^ xs.length := Int.mul_le_mul_of_nonneg_right (by omega) (by omega)
    have a0 : 0 ≤ x * D ^ xs.length := Int.mul_nonneg h0 (by omega)
    have c : (D - 1) * D ^ xs.length = D ^ xs.length * D - D ^ xs.length := by rw [Int.sub_mul, Int.one_mul, Int.mul_comm]
    rw [Int.pow_succ] at p16
    rw [List.reverse_cons, List.foldl_append, ih]
    simp only [List.foldl_cons, List.foldl_nil, impl_Lock_forthRank.stp, fb, List.length_cons, Int.pow_succ, Int.tmod_eq_emod_of_nonneg h0]
    by_cases hx : x % 2 = 1
    · simp only [hx, if_true, w64 (x := D ^ xs.length - 1) (by omega) (by omega), w64 (x := D ^ xs.length - 1 - fb D xs) (by omega) (by omega), w64 (x := x * D ^ xs.length) (by omega) (by omega), w64 (x := D ^ xs.length - 1 - fb D xs + x * D ^ xs.length) (by omega) (by omega), w64 (x := D ^ xs.length * D) (by omega) (by omega)]
      rw [Int.add_comm]
    · simp only [hx, if_false, w64 (x := x * D ^ xs.length) (by omega) (by omega), w64 (x := fb D xs + x * D ^ xs.length) (by omega) (by omega), w64 (x := D ^ xs.length * D) (by omega) (by omega)]
      rw [Int.add_comm]
theorem forthRank_ev {W D : Int} (h : LK W D) {s : ByteArray} (hc : isC W D s = true) : Ev (fun k => impl_Lock_forthRank.f k W D s) (fb D (digs s)) := by
  obtain ⟨hw, hw6, hw0⟩ := LK.w h
  have hD := LK.d h
  have z := isC_size hc
  obtain ⟨hl, hd, ht⟩ := codeOf h hc
  unfold impl_Lock_forthRank.f
  refine Ev.bind (digits_ev s (by omega)) ?_
  simp only [if_pos (show (digs s).length * 8 ≤ 140737488351232 by omega), fold_fb hD (digs s) hd (by omega)]
  exact Ev.now _
/-- Both, whatever is given. -/
theorem bothForthRank (W D : Int) (s : ByteArray) (hs : s.size ≤ 140737488351232) : ∃ r : Int × Bool, Ev (fun k => spec_ForthRank.f k W D s) r ∧ Ev (fun k => impl_ForthRank.f k W D s) r ∧ r = if LK W D ∧ isC W D s = true then (fb D (digs s), true) else (0, false) := by
  by_cases h : LK W D ∧ isC W D s = true
  · rw [if_pos h]
    refine ⟨_, specForthRank_ev h.1 h.2, ?_, rfl⟩
    unfold impl_ForthRank.f
    refine Ev.bind (has1 W D s hs) ?_
    simp only [decide_eq_true h.1, h.2, Bool.and_self, if_true]
    exact Ev.bind (forthRank_ev h.1 h.2) (Ev.now _)
  · have e : (decide (LK W D) && isC W D s) = false := by
      rw [Bool.and_eq_false_iff]
      by_cases g : LK W D
      · right; rw [← Bool.not_eq_true]; exact fun q => h ⟨g, q⟩
      · left; exact decide_eq_false g
    rw [if_neg h]
    refine ⟨(0, false), ?_, ?_, rfl⟩
    · unfold spec_ForthRank.f
      refine Ev.bind (whAsked_ev W D s hs) ?_
      simp only [e, Bool.false_eq_true, if_false]; exact Ev.now _
    · unfold impl_ForthRank.f
      refine Ev.bind (has1 W D s hs) ?_
      simp only [e, Bool.false_eq_true, if_false]; exact Ev.now _
end Go.Proofs.Ytijbngmlaggclaa.OF
namespace Go.Proofs.Ytijbngmlaggclaa.Pure
open Go.RowKit Go.Proofs.Ytijbngmlaggclaa.P Go.Proofs.Ytijbngmlaggclaa.B Go.Proofs.Ytijbngmlaggclaa.C Go.Proofs.Ytijbngmlaggclaa.L Go.Proofs.Ytijbngmlaggclaa.A Go.Proofs.Ytijbngmlaggclaa.O Go.Proofs.Ytijbngmlaggclaa.OF Go.Proofs.YtijbngmlaggclaaW.PrintWords Go.Proofs.YtijbngmlaggclaaW.PrintLast Go.Proofs.YtijbngmlaggclaaW.PrintMore
set_option linter.unusedVariables false
set_option linter.unusedSimpArgs false
theorem FnExactForthRank : ∀ (a0_0 : Int) (a0_1 : Int) (a1 : ByteArray), (-9223372036854775808 ≤ a0_0 ∧ a0_0 ≤ 9223372036854775807) → (-9223372036854775808 ≤ a0_1 ∧ a0_1 ≤ 9223372036854775807) → a1.size ≤ 140737488351232 → ∃ k, laws_FnExactForthRank.f k a0_0 a0_1 a1 = some true := by
  intro W D s _ _ hs
  refine ev_ex ?_
  unfold laws_FnExactForthRank.f laws_toLock.f
  by_cases hb : (s.size : Int) > 1048576
  · simp only [if_pos hb]; exact Ev.now _
  simp only [if_neg hb, Option.bind_some]
  obtain ⟨r, h1, h2, _⟩ := bothForthRank W D s hs
  refine Ev.bind h1 (Ev.bind h2 ?_)
  simp only [if_true, bne_self_eq_false, Bool.false_eq_true, if_false]
  exact Ev.now _
end Go.Proofs.Ytijbngmlaggclaa.Pure
