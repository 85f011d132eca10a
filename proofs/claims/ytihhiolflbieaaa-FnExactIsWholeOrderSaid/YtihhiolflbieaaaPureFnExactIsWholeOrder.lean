/- The plain statement behind the law FnExactIsWholeOrder: whatever the input, the law's Lean function answers true. Conditions: none but the sizes that the row gives. -/
import Derived.Test.YtihhiolflbieaaaPx0
import Derived.Lib.IndexMore
import Derived.Test.YtihhiolflbieaaaPx1
import Derived.Test.YtihhiolflbieaaaPx2
import Derived.Test.YtihhiolflbieaaaPx12
import Derived.Test.YtihhiolflbieaaaPx19
import Derived.Test.YtihhiolflbieaaaPx26
import Derived.Test.YtihhiolflbieaaaPx30
import Derived.Test.YtihhiolflbieaaaPx31
import Derived.Test.YtihhiolflbieaaaPx32
import Derived.Test.YtihhiolflbieaaaPx37
import Derived.Test.YtihhiolflbieaaaPx44
namespace Go.Proofs.Ytihhiolflbieaaa.B
open Go.RowKit Go.Proofs.Ytihhiolflbieaaa.P Go.Proofs.YtihhiolflbieaaaW.PrintWords Go.Proofs.YtihhiolflbieaaaW.PrintLast Go.Proofs.YtihhiolflbieaaaW.PrintMore
set_option linter.unusedVariables false
set_option linter.unusedSimpArgs false
theorem w64 {x : Int} (h0 : -9223372036854775808 ≤ x) (h1 : x ≤ 9223372036854775807) : wrap64 x = x := by unfold wrap64; omega
theorem ev_loop {α : Type} {g : Nat → Nat → Option α} {r : α} (n : Nat) (step : ∀ j, j < n → Ev (g (j + 1)) r → Ev (g j) r) (fin : Ev (g n) r) : Ev (g 0) r := by
  have : ∀ d, d ≤ n → Ev (g (n - d)) r := by
    intro d
    induction d with
    | zero => intro _; exact fin
    | succ d ih =>
      intro hd
      have := step (n - (d + 1)) (by omega)
      rw [show n - (d + 1) + 1 = n - d by omega] at this
      exact this (ih (by omega))
  have := this n (Nat.le_refl n)
  rwa [Nat.sub_self] at this
/-- Behind the loop's rounds the answer may differ from round to round (an early return). -/
theorem ev_down {α : Type} {g : Nat → Nat → Option α} {R : Nat → α} (n : Nat) (step : ∀ j, j < n → Ev (g (j + 1)) (R (j + 1)) → Ev (g j) (R j)) (fin : Ev (g n) (R n)) : Ev (g 0) (R 0) := by
  have : ∀ d, d ≤ n → Ev (g (n - d)) (R (n - d)) := by
    intro d
    induction d with
    | zero => intro _; exact fin
    | succ d ih =>
      intro hd
      have := step (n - (d + 1)) (by omega)
      rw [show n - (d + 1) + 1 = n - d by omega] at this
      exact this (ih (by omega))
  have := this n (Nat.le_refl n)
  rwa [Nat.sub_self] at this
theorem ev_ex {g : Nat → Option Bool} (h : Ev g true) : ∃ k, g k = some true := h.rounds
def LK (W D : Int) : Prop := 1 ≤ W ∧ W ≤ 6 ∧ 2 ≤ D ∧ D ≤ 10
instance (W D : Int) : Decidable (LK W D) := by unfold LK; infer_instance
theorem for_good {p : Int → Int → Bool} (h : ((List.range 6).all fun i => (List.range 9).all fun j => p (i + 1) (j + 2)) = true) {W D : Int} (hg : LK W D) : p W D = true := by
  obtain ⟨h1, h2, h3, h4⟩ := hg
  rw [List.all_eq_true] at h
  have a := h (W.toNat - 1) (List.mem_range.mpr (by omega))
  rw [List.all_eq_true] at a
  have b := a (D.toNat - 2) (List.mem_range.mpr (by omega))
  rw [show ((W.toNat - 1 : Nat) : Int) + 1 = W by omega, show ((D.toNat - 2 : Nat) : Int) + 2 = D by omega] at b
  exact b
theorem l1In_eq (a b c : Int) : spec_l1In.f a b c = some (decide (b ≤ a ∧ a ≤ c)) := by
  unfold spec_l1In.f
  by_cases h : a ≥ b
  · rw [if_pos h]; congr 1; rw [decide_eq_decide]; omega
  · rw [if_neg h]; congr 1; symm; rw [decide_eq_false_iff_not]; omega
theorem within_eq (a b c : Int) : impl_within.f a b c = some (decide (b ≤ a ∧ a ≤ c)) := by
  unfold impl_within.f
  by_cases h : b ≤ a
  · rw [if_pos h]; congr 1; rw [decide_eq_decide]; omega
  · rw [if_neg h]; congr 1; symm; rw [decide_eq_false_iff_not]; omega
theorem whGood_eq (W D : Int) : spec_whGood.f W D = some (decide (LK W D)) := by
  unfold spec_whGood.f
  rw [l1In_eq, Option.bind_some, l1In_eq, Option.bind_some]
  by_cases h : 1 ≤ W ∧ W ≤ 6
  · rw [if_pos (decide_eq_true h)]; congr 1; rw [decide_eq_decide]; unfold LK; omega
  · rw [if_neg (by rw [decide_eq_false h]; decide)]; congr 1; symm; rw [decide_eq_false_iff_not]; unfold LK; omega
theorem IsLock_eq (W D : Int) : impl_IsLock.f W D = some (decide (LK W D)) := by
  unfold impl_IsLock.f
  rw [within_eq, Option.bind_some, within_eq, Option.bind_some]
  by_cases h : 1 ≤ W ∧ W ≤ 6
  · rw [if_pos (decide_eq_true h)]; congr 1; rw [decide_eq_decide]; unfold LK; omega
  · rw [if_neg (by rw [decide_eq_false h]; decide)]; congr 1; symm; rw [decide_eq_false_iff_not]; unfold LK; omega
def cnt (W D : Int) : Int := D ^ W.toNat
theorem cnt_bd {W D : Int} (h : LK W D) : 2 ≤ cnt W D ∧ cnt W D ≤ 1000000 := by
  have := for_good (p := fun W D => decide (2 ≤ cnt W D ∧ cnt W D ≤ 1000000)) (by decide +kernel) h
  exact of_decide_eq_true this
theorem whCount_ev {W D : Int} (h : LK W D) : Ev (fun k => spec_whCount.f k W D) (cnt W D) := by
  have := for_good (p := fun W D => decide (spec_whCount.f 8 W D = some (cnt W D))) (by decide +kernel) h
  exact Ev.of (fun k => spec_whCount.mono _ _ k) (of_decide_eq_true this)
theorem count_ev {W D : Int} (h : LK W D) : Ev (fun k => impl_Lock_count.f k W D) (cnt W D) := by
  have := for_good (p := fun W D => decide (impl_Lock_count.f 8 W D = some (cnt W D))) (by decide +kernel) h
  exact Ev.of (fun k => impl_Lock_count.mono _ _ k) (of_decide_eq_true this)
end Go.Proofs.Ytihhiolflbieaaa.B
namespace Go.Proofs.Ytihhiolflbieaaa.C
open Go.RowKit Go.Proofs.Ytihhiolflbieaaa.P Go.Proofs.Ytihhiolflbieaaa.B Go.Proofs.YtihhiolflbieaaaW.PrintWords Go.Proofs.YtihhiolflbieaaaW.PrintLast Go.Proofs.YtihhiolflbieaaaW.PrintMore
set_option linter.unusedVariables false
set_option linter.unusedSimpArgs false
theorem Ev.succ {α : Type} {g : Nat → Option α} {r : α} (h : Ev (fun k => g (k + 1)) r) : Ev g r := Ev.step (fun _ => rfl) h
theorem bt_nat (s : ByteArray) (j : Nat) (h : j < s.data.toList.length) : bt s (j : Int) = ((s.data.toList[j]).toNat : Int) := by
  have h' : j < s.size := by rw [Array.length_toList] at h; exact h
  unfold bt
  rw [dif_pos (by rw [Int.toNat_natCast]; exact h')]
  simp only [Int.toNat_natCast, Array.getElem_toList]
  rfl
theorem size_len (s : ByteArray) : s.size = s.data.toList.length := by rw [Array.length_toList]; rfl
def dg (D : Int) (b : UInt8) : Bool := decide (48 ≤ (b.toNat : Int) ∧ (b.toNat : Int) < 48 + D)
def isT (D : Int) (s : ByteArray) : Bool := s.data.toList.all (dg D)
def isC (W D : Int) (s : ByteArray) : Bool := decide ((s.size : Int) = W) && isT D s
theorem drop_all {α : Type} (p : α → Bool) (l : List α) (j : Nat) (h : j < l.length) : (l.drop j).all p = (p l[j] && (l.drop (j + 1)).all p) := by
  rw [List.drop_eq_getElem_cons h, List.all_cons]
theorem isText_ev (W : Int) {D : Int} (hD : 2 ≤ D ∧ D ≤ 10) (s : ByteArray) (hs : s.size ≤ 140737488351232) : Ev (fun k => impl_Lock_isText.f k W D s) (isT D s) := by
  unfold impl_Lock_isText.f isT
  refine ev_down (g := fun j k => impl_Lock_isText.l0 k s (s.size : Int) (j : Int) W D) (R := fun j => (s.data.toList.drop j).all (dg D)) s.size ?_ ?_
  · intro j hj ih
    have hl : j < s.data.toList.length := by rw [← size_len]; exact hj
    have hb := bt_nat s j hl
    have hb2 : (s.data.toList[j]).toNat < 256 := UInt8.toNat_lt _
    refine Ev.succ ?_
    simp only [impl_Lock_isText.l0, if_pos (show (j : Int) < (s.size : Int) by omega), if_pos (show (0 : Int) ≤ (j : Int) by omega), within_eq, Option.bind_some,
      w64 (x := bt s j) (by omega) (by omega), w64 (x := 48 + D) (by omega) (by omega), w64 (x := 48 + D - 1) (by omega) (by omega), w64 (x := (j : Int) + 1) (by omega) (by omega)]
    rw [drop_all _ _ _ hl]
    by_cases h : 48 ≤ bt s j ∧ bt s j ≤ 48 + D - 1
    · have e : dg D s.data.toList[j] = true := by unfold dg; exact decide_eq_true (by omega)
      simp only [decide_eq_true h, if_true, e, Bool.true_and]
      exact ih
    · have e : dg D s.data.toList[j] = false := by unfold dg; exact decide_eq_false (by omega)
      simp only [decide_eq_false h, e, Bool.false_and, Bool.false_eq_true, if_false]
      exact Ev.now _
  · refine Ev.succ ?_
    simp only [impl_Lock_isText.l0, if_neg (show ¬ ((s.size : Nat) : Int) < (s.size : Int) by omega)]
    rw [List.drop_of_length_le (by rw [← size_len]; exact Nat.le_refl _)]
    exact Ev.now _
theorem isCode_ev {W D : Int} (hD : 2 ≤ D ∧ D ≤ 10) (s : ByteArray) (hs : s.size ≤ 140737488351232) : Ev (fun k => impl_Lock_isCode.f k W D s) (isC W D s) := by
  unfold impl_Lock_isCode.f isC
  by_cases h : (s.size : Int) = W
  · simp only [if_pos h, decide_eq_true h, Bool.true_and]
    exact Ev.bind (isText_ev W hD s hs) (Ev.now _)
  · simp only [if_neg h, decide_eq_false h, Bool.false_and]
    exact Ev.now _
theorem whCode_ev {W D : Int} (hD : 2 ≤ D ∧ D ≤ 10) (s : ByteArray) (hs : s.size ≤ 140737488351232) : Ev (fun k => spec_whCode.f k W D s) (isC W D s) := by
  unfold spec_whCode.f isC
  by_cases h : (s.size : Int) = W
  · simp only [if_pos h, decide_eq_true h, Bool.true_and]
    unfold isT
    refine ev_down (g := fun j k => spec_whCode.l0 k s (j : Int) W D) (R := fun j => (s.data.toList.drop j).all (dg D)) s.size ?_ ?_
    · intro j hj ih
      have hl : j < s.data.toList.length := by rw [← size_len]; exact hj
      have hb := bt_nat s j hl
      have hb2 : (s.data.toList[j]).toNat < 256 := UInt8.toNat_lt _
      refine Ev.succ ?_
      simp only [spec_whCode.l0, if_pos (show (j : Int) < (s.size : Int) by omega), if_pos (show (0 : Int) ≤ (j : Int) by omega), l1In_eq, Option.bind_some,
        w64 (x := bt s j) (by omega) (by omega), w64 (x := bt s j - 48) (by omega) (by omega), w64 (x := D - 1) (by omega) (by omega), w64 (x := (j : Int) + 1) (by omega) (by omega)]
      rw [drop_all _ _ _ hl]
      by_cases h : 0 ≤ bt s j - 48 ∧ bt s j - 48 ≤ D - 1
      · have e : dg D s.data.toList[j] = true := by unfold dg; exact decide_eq_true (by omega)
        simp only [decide_eq_true h, if_true, e, Bool.true_and]
        exact ih
      · have e : dg D s.data.toList[j] = false := by unfold dg; exact decide_eq_false (by omega)
        simp only [decide_eq_false h, e, Bool.false_and, Bool.false_eq_true, if_false]
        exact Ev.now _
    · refine Ev.succ ?_
      simp only [spec_whCode.l0, if_neg (show ¬ ((s.size : Nat) : Int) < (s.size : Int) by omega)]
      rw [List.drop_of_length_le (by rw [← size_len]; exact Nat.le_refl _)]
      exact Ev.now _
  · simp only [if_neg h, decide_eq_false h, Bool.false_and]
    exact Ev.now _
def digs (s : ByteArray) : List Int := s.data.toList.map fun b => ((b.toNat : Int) - 48) % 256
def txt (d : List Int) : ByteArray := strOfNums (d.map fun n => (48 + n) % 256)
/-- Digits of a lock. -/
def IsD (D : Int) (d : List Int) : Prop := ∀ x ∈ d, 0 ≤ x ∧ x < D
theorem digs_len (s : ByteArray) : (digs s).length = s.size := by unfold digs; rw [List.length_map, size_len]
theorem digs_get (s : ByteArray) (j : Nat) (h : j < (digs s).length) : (digs s)[j] = (bt s j - 48) % 256 := by
  unfold digs at h ⊢
  rw [List.length_map] at h
  rw [List.getElem_map, bt_nat s j h]
theorem rd_get (l : List Int) (j : Nat) (h : j < l.length) : rd l (j : Int) = l[j] := by
  unfold rd; rw [Int.toNat_natCast, List.getD_eq_getElem?_getD, List.getElem?_eq_getElem h]; rfl
theorem digs_isD {W D : Int} (hD : 2 ≤ D ∧ D ≤ 10) {s : ByteArray} (h : isT D s = true) : IsD D (digs s) := by
  intro x hx
  unfold isT at h
  rw [List.all_eq_true] at h
  obtain ⟨b, hb, rfl⟩ := List.mem_map.mp hx
  have := of_decide_eq_true (h b hb)
  omega
theorem isC_size {W D : Int} {s : ByteArray} (h : isC W D s = true) : (s.size : Int) = W := by
  unfold isC at h; rw [Bool.and_eq_true] at h; exact of_decide_eq_true h.1
theorem isC_isT {W D : Int} {s : ByteArray} (h : isC W D s = true) : isT D s = true := by
  unfold isC at h; rw [Bool.and_eq_true] at h; exact h.2
theorem txt_digs {D : Int} (hD : 2 ≤ D ∧ D ≤ 10) {s : ByteArray} (h : isT D s = true) : txt (digs s) = s := by
  unfold txt digs strOfNums
  rw [List.map_map, List.map_map]
  have : s.data.toList.map (((fun n : Int => UInt8.ofNat n.toNat) ∘ (fun n : Int => (48 + n) % 256)) ∘ fun b : UInt8 => ((b.toNat : Int) - 48) % 256) = s.data.toList := by
    conv => rhs; rw [← List.map_id s.data.toList]
    refine List.map_congr_left fun b hb => ?_
    unfold isT at h
    rw [List.all_eq_true] at h
    have := of_decide_eq_true (h b hb)
    simp only [Function.comp, id]
    rw [show (48 + ((b.toNat : Int) - 48) % 256) % 256 = (b.toNat : Int) by omega, Int.toNat_natCast, UInt8.ofNat_toNat]
  rw [this]
theorem digs_txt {d : List Int} (h : IsD 10 d) : digs (txt d) = d := by
  unfold txt digs strOfNums
  simp only
  rw [List.map_map, List.map_map]
  conv => rhs; rw [← List.map_id d]
  refine List.map_congr_left fun x hx => ?_
  have := h x hx
  simp only [Function.comp, id]
  rw [UInt8.toNat_ofNat']
  omega
theorem txt_size (d : List Int) : (txt d).size = d.length := by unfold txt; rw [strOfNums_size, List.length_map]
theorem IsD.mono {D D' : Int} {d : List Int} (h : IsD D d) (hh : D ≤ D') : IsD D' d := fun x hx => ⟨(h x hx).1, by have := (h x hx).2; omega⟩
theorem txt_inj {d e : List Int} (hd : IsD 10 d) (he : IsD 10 e) (h : txt d = txt e) : d = e := by rw [← digs_txt hd, h, digs_txt he]
theorem whDigits_ev (s : ByteArray) (hs : s.size ≤ 10000000000) : Ev (fun k => spec_whDigits.f k s) (digs s) := by
  unfold spec_whDigits.f
  refine ev_loop (g := fun j k => spec_whDigits.l0 k s ((digs s).take j) (j : Int)) s.size ?_ ?_
  · intro j hj ih
    have hl : j < (digs s).length := by rw [digs_len]; exact hj
    refine Ev.succ ?_
    have ht : ((digs s).take j).length = j := by rw [List.length_take]; omega
    simp only [spec_whDigits.l0, if_pos (show (j : Int) < (s.size : Int) by omega), if_pos (show (0 : Int) ≤ (j : Int) by omega), ht, if_pos (show j < 17592186044416 by omega), w64 (x := (j : Int) + 1) (by omega) (by omega)]
    rw [List.take_succ_eq_append_getElem hl, digs_get s j hl] at ih
    exact ih
  · refine Ev.succ ?_
    simp only [spec_whDigits.l0, if_neg (show ¬ ((s.size : Nat) : Int) < (s.size : Int) by omega)]
    rw [List.take_of_length_le (by rw [digs_len]; exact Nat.le_refl _)]
    exact Ev.now _
theorem digits_ev (s : ByteArray) (hs : s.size ≤ 10000000000) : Ev (fun k => impl_digits.f k s) (digs s) := by
  unfold impl_digits.f
  refine ev_loop (g := fun j k => impl_digits.l0 k s ((digs s).take j) (s.size : Int) (j : Int)) s.size ?_ ?_
  · intro j hj ih
    have hl : j < (digs s).length := by rw [digs_len]; exact hj
    refine Ev.succ ?_
    have ht : ((digs s).take j).length = j := by rw [List.length_take]; omega
    simp only [impl_digits.l0, if_pos (show (j : Int) < (s.size : Int) by omega), if_pos (show (0 : Int) ≤ (j : Int) by omega), ht, if_pos (show j < 17592186044416 by omega), w64 (x := (j : Int) + 1) (by omega) (by omega)]
    rw [List.take_succ_eq_append_getElem hl, digs_get s j hl] at ih
    exact ih
  · refine Ev.succ ?_
    simp only [impl_digits.l0, if_neg (show ¬ ((s.size : Nat) : Int) < (s.size : Int) by omega)]
    rw [List.take_of_length_le (by rw [digs_len]; exact Nat.le_refl _)]
    exact Ev.now _
theorem text_ev (l : List Int) (hl : l.length ≤ 10000000000) (h : IsD 10 l) : Ev (fun k => impl_text.f k l) (txt l) := by
  unfold impl_text.f
  refine ev_loop (g := fun j k => impl_text.l0 k ((l.map fun n => (48 + n) % 256).take j) l (l.length : Int) (j : Int)) l.length ?_ ?_
  · intro j hj ih
    have hm : j < (l.map fun n => (48 + n) % 256).length := by rw [List.length_map]; exact hj
    have hx := h _ (List.getElem_mem hj)
    have hr := rd_get l j hj
    refine Ev.succ ?_
    have ht : ((l.map fun n => (48 + n) % 256).take j).length = j := by rw [List.length_take]; omega
    simp only [impl_text.l0, if_pos (show (j : Int) < (l.length : Int) by omega), if_pos (show (0 : Int) ≤ (j : Int) by omega), ht, if_pos (show j < 140737488355328 by omega), w64 (x := (j : Int) + 1) (by omega) (by omega), hr, w64 (x := 48 + l[j]) (by omega) (by omega)]
    rw [List.take_succ_eq_append_getElem hm, List.getElem_map] at ih
    exact ih
  · refine Ev.succ ?_
    simp only [impl_text.l0, if_neg (show ¬ ((l.length : Nat) : Int) < (l.length : Int) by omega)]
    rw [List.take_of_length_le (by rw [List.length_map]; exact Nat.le_refl _)]
    exact Ev.now _
end Go.Proofs.Ytihhiolflbieaaa.C
namespace Go.Proofs.Ytihhiolflbieaaa.L
open Go.Proofs.Ytihhiolflbieaaa.C
set_option linter.unusedVariables false
set_option linter.unusedSimpArgs false
theorem pw_pos {D : Int} (h : 0 < D) : ∀ n : Nat, 0 < D ^ n
  | 0 => by simp
  | n + 1 => by rw [Int.pow_succ]; exact Int.mul_pos (pw_pos h n) h
def num (D : Int) : List Int → Int
  | [] => 0
  | x :: xs => x * D ^ xs.length + num D xs
theorem IsD.cons {D x : Int} {xs : List Int} (h : IsD D (x :: xs)) : (0 ≤ x ∧ x < D) ∧ IsD D xs := ⟨h x (List.mem_cons_self ..), fun y hy => h y (List.mem_cons_of_mem _ hy)⟩
theorem num_bd {D : Int} (hD : 0 < D) : ∀ d : List Int, IsD D d → 0 ≤ num D d ∧ num D d + 1 ≤ D ^ d.length
  | [], _ => by simp [num]
  | x :: xs, h => by
    obtain ⟨⟨h0, h1⟩, hs⟩ := IsD.cons h
    have ih := num_bd hD xs hs
    have hp := pw_pos hD xs.length
    have a : x * D ^ xs.length ≤ (D - 1) * D ^ xs.length := Int.mul_le_mul_of_nonneg_right (by omega) (by omega)
    have b : 0 ≤ x * D ^ xs.length := Int.mul_nonneg h0 (by omega)
    have c : (D - 1) * D ^ xs.length = D ^ xs.length * D - D ^ xs.length := by rw [Int.sub_mul, Int.one_mul, Int.mul_comm]
    simp only [num, List.length_cons, Int.pow_succ]
    omega
theorem num_append (D : Int) : ∀ a b : List Int, num D (a ++ b) = num D a * D ^ b.length + num D b
  | [], b => by simp [num]
  | x :: xs, b => by
    simp only [List.cons_append, num, num_append D xs b, List.length_append, Int.pow_add, Int.add_mul, Int.mul_assoc]
    omega
theorem num_snoc (D : Int) (a : List Int) (x : Int) : num D (a ++ [x]) = num D a * D + x := by
  rw [num_append]; simp [num, Int.pow_succ]
def cod (D : Int) : Nat → Int → List Int
  | 0, _ => []
  | j + 1, n => (n / D ^ j % D) :: cod D j n
theorem divmod {y q P : Int} (h0 : 0 ≤ y) (h1 : y < P) : (y + q * P) / P = q ∧ (y + q * P) % P = y := by
  constructor
  · rw [Int.add_mul_ediv_right _ _ (by omega), Int.ediv_eq_zero_of_lt h0 h1, Int.zero_add]
  · rw [Int.add_mul_emod_self_right, Int.emod_eq_of_lt h0 h1]
theorem cod_add {D : Int} (hD : 0 < D) : ∀ (j : Nat) (n t : Int), cod D j (n + t * D ^ j) = cod D j n
  | 0, _, _ => rfl
  | j + 1, n, t => by
    have e : t * D ^ (j + 1) = t * D * D ^ j := by rw [Int.pow_succ, Int.mul_comm (D ^ j) D, Int.mul_assoc]
    have hp := pw_pos hD j
    simp only [cod]
    rw [e, cod_add hD j n (t * D), Int.add_mul_ediv_right _ _ (by omega), Int.add_mul_emod_self_right]
theorem cod_num {D : Int} (hD : 0 < D) : ∀ d : List Int, IsD D d → cod D d.length (num D d) = d
  | [], _ => rfl
  | x :: xs, h => by
    obtain ⟨⟨h0, h1⟩, hs⟩ := IsD.cons h
    have b := num_bd hD xs hs
    have hp := pw_pos hD xs.length
    have dm := divmod (q := x) b.1 (show num D xs < D ^ xs.length by omega)
    simp only [List.length_cons, cod, num]
    rw [Int.add_comm, dm.1, Int.emod_eq_of_lt h0 h1, cod_add hD, cod_num hD xs hs]
/-- b is a with one digit turned by 1 or -1. -/
def Nx (D : Int) : List Int → List Int → Prop
  | x :: xs, y :: ys => (x = y ∧ Nx D xs ys) ∨ (xs = ys ∧ x ≠ y ∧ (y = (x + 1) % D ∨ y = (x - 1) % D))
  | _, _ => False
theorem Nx.symm {D : Int} : ∀ {a b : List Int}, IsD D a → IsD D b → Nx D a b → Nx D b a
  | [], [], _, _, h => h
  | [], _ :: _, _, _, h => h
  | _ :: _, [], _, _, h => h
  | x :: xs, y :: ys, ha, hb, h => by
    obtain ⟨⟨a0, a1⟩, ha'⟩ := IsD.cons ha
    obtain ⟨⟨b0, b1⟩, hb'⟩ := IsD.cons hb
    rcases h with ⟨e, h⟩ | ⟨rfl, hne, h⟩
    · exact .inl ⟨e.symm, Nx.symm ha' hb' h⟩
    · refine .inr ⟨rfl, fun e => hne e.symm, ?_⟩
      rcases h with h | h
      · right; rw [h, Int.emod_sub_emod, show x + 1 - 1 = x by omega, Int.emod_eq_of_lt a0 a1]
      · left; rw [h, Int.emod_add_emod, show x - 1 + 1 = x by omega, Int.emod_eq_of_lt a0 a1]
end Go.Proofs.Ytihhiolflbieaaa.L
namespace Go.Proofs.Ytihhiolflbieaaa.A
open Go.RowKit Go.Proofs.Ytihhiolflbieaaa.P Go.Proofs.Ytihhiolflbieaaa.B Go.Proofs.Ytihhiolflbieaaa.C Go.Proofs.Ytihhiolflbieaaa.L Go.Proofs.YtihhiolflbieaaaW.PrintWords Go.Proofs.YtihhiolflbieaaaW.PrintLast Go.Proofs.YtihhiolflbieaaaW.PrintMore
set_option linter.unusedVariables false
set_option linter.unusedSimpArgs false
theorem tm {a D : Int} (hD : 0 < D) : Int.tmod (Int.tmod a D + D) D = a % D ∧ 0 < Int.tmod a D + D ∧ Int.tmod a D + D < 2 * D := by
  have key : ∃ t q, Int.tmod a D = t ∧ -D < t ∧ t < D ∧ a = t + q * D := by
    by_cases h : 0 ≤ a
    · refine ⟨a % D, a / D, Int.tmod_eq_emod_of_nonneg h, ?_, Int.emod_lt_of_pos _ hD, ?_⟩
      · have := Int.emod_nonneg a (b := D) (by omega); omega
      · rw [Int.mul_comm, Int.emod_add_mul_ediv]
    · refine ⟨-((-a) % D), -((-a) / D), ?_, ?_, ?_, ?_⟩
      · have e := Int.neg_tmod (a := -a) (b := D)
        rw [Int.neg_neg] at e
        rw [e, Int.tmod_eq_emod_of_nonneg (by omega)]
      · have := Int.emod_lt_of_pos (-a) hD; omega
      · have := Int.emod_nonneg (-a) (b := D) (by omega); omega
      · have := Int.emod_add_mul_ediv (-a) D
        rw [Int.neg_mul, Int.mul_comm]; omega
  obtain ⟨t, q, ht, h1, h2, ha⟩ := key
  refine ⟨?_, by omega, by omega⟩
  rw [ht, Int.tmod_eq_emod_of_nonneg (by omega), Int.add_emod_right, ha, Int.add_mul_emod_self_right]
theorem around_eq {a D : Int} (hD : 1 ≤ D ∧ D ≤ 1000) : impl_around.f a D = some (a % D) := by
  unfold impl_around.f
  obtain ⟨h1, h2, h3⟩ := tm (a := a) (show 0 < D by omega)
  rw [if_neg (by omega), w64 (by omega) (by omega), h1]
theorem l1Mod_eq {a D : Int} (hD : 1 ≤ D ∧ D ≤ 1000) : spec_l1Mod.f a D = some (a % D) := by
  unfold spec_l1Mod.f
  obtain ⟨h1, h2, h3⟩ := tm (a := a) (show 0 < D by omega)
  rw [if_neg (by omega), w64 (by omega) (by omega), h1]
theorem pow_le {D : Int} (h0 : 0 < D) (h : D ≤ 10) : ∀ n : Nat, D ^ n ≤ 10 ^ n
  | 0 => by simp
  | n + 1 => by
    rw [Int.pow_succ, Int.pow_succ]
    have a := pow_le h0 h n
    have p := pw_pos h0 n
    have b : D ^ n * D ≤ D ^ n * 10 := Int.mul_le_mul_of_nonneg_left h (by omega)
    omega
theorem ten_le {n : Nat} (h : n ≤ 15) : (10 : Int) ^ n ≤ 1000000000000000 := by
  have : ((List.range 16).all fun n => decide ((10 : Int) ^ n ≤ 1000000000000000)) = true := by decide +kernel
  rw [List.all_eq_true] at this
  exact of_decide_eq_true (this n (List.mem_range.mpr (by omega)))
theorem pow15 {D : Int} (h0 : 0 < D) (h : D ≤ 10) {n : Nat} (hn : n ≤ 15) : D ^ n ≤ 1000000000000000 := Int.le_trans (pow_le h0 h n) (ten_le hn)
theorem IsD.take {D : Int} {d : List Int} (h : IsD D d) (j : Nat) : IsD D (d.take j) := fun x hx => h x (List.mem_of_mem_take hx)
theorem IsD.drop {D : Int} {d : List Int} (h : IsD D d) (j : Nat) : IsD D (d.drop j) := fun x hx => h x (List.mem_of_mem_drop hx)
theorem IsD.get {D : Int} {d : List Int} (h : IsD D d) {j : Nat} (hj : j < d.length) : 0 ≤ d[j] ∧ d[j] < D := h _ (List.getElem_mem hj)
theorem num_small {D : Int} (hD : 2 ≤ D ∧ D ≤ 10) {d : List Int} (h : IsD D d) (hl : d.length ≤ 15) : 0 ≤ num D d ∧ num D d < 1000000000000000 := by
  have a := num_bd (show 0 < D by omega) d h
  have b := pow15 (show 0 < D by omega) hD.2 hl
  omega
theorem eqStringS_ev (l : List ByteArray) (hl : l.length ≤ 100000000000000) : Ev (fun k => laws_eqStringS.f k l l) true := by
  unfold laws_eqStringS.f
  simp only [if_true]
  refine ev_loop (g := fun j k => laws_eqStringS.l0 k l l (j : Int)) l.length ?_ ?_
  · intro j hj ih
    refine Ev.succ ?_
    simp only [laws_eqStringS.l0, if_pos (show (j : Int) < (l.length : Int) by omega), if_pos (show (0 : Int) ≤ (j : Int) by omega), if_true, w64 (x := (j : Int) + 1) (by omega) (by omega)]
    exact ih
  · refine Ev.succ ?_
    simp only [laws_eqStringS.l0, if_neg (show ¬ ((l.length : Nat) : Int) < (l.length : Int) by omega)]
    exact Ev.now _
end Go.Proofs.Ytihhiolflbieaaa.A
namespace Go.Proofs.Ytihhiolflbieaaa.O
open Go.RowKit Go.Proofs.Ytihhiolflbieaaa.P Go.Proofs.Ytihhiolflbieaaa.B Go.Proofs.Ytihhiolflbieaaa.C Go.Proofs.Ytihhiolflbieaaa.L Go.Proofs.Ytihhiolflbieaaa.A Go.Proofs.YtihhiolflbieaaaW.PrintWords Go.Proofs.YtihhiolflbieaaaW.PrintLast Go.Proofs.YtihhiolflbieaaaW.PrintMore
set_option linter.unusedVariables false
set_option linter.unusedSimpArgs false
theorem LK.w {W D : Int} (h : LK W D) : (W.toNat : Int) = W ∧ W.toNat ≤ 6 ∧ 0 < W.toNat := by obtain ⟨h1, h2, _⟩ := h; omega
theorem LK.d {W D : Int} (h : LK W D) : 2 ≤ D ∧ D ≤ 10 := h.2.2
/-- The text of a code, by its digits. -/
theorem codeOf {W D : Int} (h : LK W D) {s : ByteArray} (hc : isC W D s = true) : (digs s).length = W.toNat ∧ IsD D (digs s) ∧ txt (digs s) = s := by
  have z := isC_size hc
  refine ⟨by rw [digs_len]; omega, digs_isD (W := W) (LK.d h) (isC_isT hc), txt_digs (LK.d h) (isC_isT hc)⟩
end Go.Proofs.Ytihhiolflbieaaa.O
namespace Go.Proofs.Ytihhiolflbieaaa.O2
open Go.RowKit Go.Proofs.Ytihhiolflbieaaa.P Go.Proofs.Ytihhiolflbieaaa.B Go.Proofs.Ytihhiolflbieaaa.C Go.Proofs.Ytihhiolflbieaaa.L Go.Proofs.Ytihhiolflbieaaa.A Go.Proofs.Ytihhiolflbieaaa.O Go.Proofs.YtihhiolflbieaaaW.PrintWords Go.Proofs.YtihhiolflbieaaaW.PrintLast Go.Proofs.YtihhiolflbieaaaW.PrintMore
set_option linter.unusedVariables false
set_option linter.unusedSimpArgs false
/-- Where two codes at the distance 1 part. -/
theorem nx_at {D : Int} : ∀ {a b : List Int}, a.length = b.length → Nx D a b → ∃ i, ∃ (hi : i < a.length) (hb : i < b.length), a[i] ≠ b[i] ∧ (∀ j, j < i → a[j]? = b[j]?) ∧ ((b[i] = (a[i] + 1) % D ∧ b = a.set i ((a[i] + 1) % D)) ∨ (b[i] ≠ (a[i] + 1) % D ∧ b = a.set i ((a[i] - 1) % D)))
  | [], [], _, h => h.elim
  | [], _ :: _, _, h => h.elim
  | _ :: _, [], _, h => h.elim
  | x :: xs, y :: ys, hl, h => by
    rcases h with ⟨rfl, h⟩ | ⟨rfl, hne, h⟩
    · obtain ⟨i, hi, hb, h1, h2, h3⟩ := nx_at (by simpa using hl) h
      refine ⟨i + 1, by simpa using hi, by simpa using hb, by simpa using h1, ?_, ?_⟩
      · intro j hj
        cases j with
        | zero => rfl
        | succ j => simpa using h2 j (by omega)
      · simpa using h3
    · refine ⟨0, by simp, by simp, by simpa using hne, fun j hj => by omega, ?_⟩
      by_cases e : y = (x + 1) % D
      · left; simp [e]
      · right; rcases h with h | h
        · exact absurd h e
        · exact ⟨by simpa using e, by simp [h]⟩
def trn (m : Nat) : S66 := ⟨((m / 2 : Nat) : Int), if m % 2 = 0 then 1 else -1⟩
def trns (W : Nat) : List S66 := (List.range (2 * W)).map trn
theorem turns_ev {W : Nat} (h : W ≤ 6) : Ev (fun k => impl_turns.f k (W : Int)) (trns W) := by
  have : W = 0 ∨ W = 1 ∨ W = 2 ∨ W = 3 ∨ W = 4 ∨ W = 5 ∨ W = 6 := by omega
  rcases this with rfl | rfl | rfl | rfl | rfl | rfl | rfl <;> exact Ev.of (fun k => impl_turns.mono _ k) (k := 10) (by kernel_rfl)
def tur (D : Int) (i : Nat) (by_ : Int) (a : List Int) : List Int := a.set i ((a.getD i 0 + by_) % D)
theorem tur_isD {D : Int} (hD : 0 < D) {a : List Int} (h : IsD D a) (i : Nat) (e : Int) : IsD D (tur D i e a) := by
  intro x hx
  unfold tur at hx
  rcases List.mem_or_eq_of_mem_set hx with hx | rfl
  · exact h x hx
  · exact ⟨Int.emod_nonneg _ (by omega), Int.emod_lt_of_pos _ hD⟩
theorem tur_len (D : Int) (i : Nat) (e : Int) (a : List Int) : (tur D i e a).length = a.length := by simp [tur]
theorem turned_ev {W D : Int} (hD : 2 ≤ D ∧ D ≤ 10) {a : List Int} (ha : IsD D a) (hl : a.length ≤ 1000) {i : Nat} (hi : i < a.length) {e : Int} (he : -1000 ≤ e ∧ e ≤ 1000) :
    Ev (fun k => impl_Lock_turned.f k W D (txt a) (i : Int) e) (txt (tur D i e a)) := by
  unfold impl_Lock_turned.f
  refine Ev.bind (digits_ev _ (by rw [txt_size]; omega)) ?_
  rw [digs_txt (IsD.mono ha hD.2)]
  have x := IsD.get ha hi
  have g : a.getD i 0 = a[i] := by rw [List.getD_eq_getElem?_getD, List.getElem?_eq_getElem hi]; rfl
  simp only [if_pos (show (0 : Int) ≤ (i : Int) by omega), if_pos (show (i : Int) < (a.length : Int) by omega), rd_get a i hi, w64 (x := a[i] + e) (by omega) (by omega), around_eq (D := D) (by omega), Option.bind_some, Int.toNat_natCast]
  have t := text_ev (tur D i e a) (by rw [tur_len]; omega) (IsD.mono (tur_isD (by omega) ha i e) hD.2)
  unfold tur at t ⊢
  rw [g] at t ⊢
  exact Ev.bind t (Ev.now _)
theorem toList_inj {s t : ByteArray} : s.toList = t.toList ↔ s = t := by
  constructor
  · intro h
    rw [ByteArray.toList_eq, ByteArray.toList_eq] at h
    exact ByteArray.ext (Array.ext' h)
  · exact fun h => by rw [h]
/-- The first turn that leads from one code to another one: its wheel and how far. -/
theorem orTurn_ev {W D : Int} (hD : 2 ≤ D ∧ D ≤ 10) {a b : List Int} (ha : IsD D a) (hb : IsD D b) (hl : a.length ≤ 1000) (hlb : b.length ≤ 1000) {i : Nat} (hi : i < a.length) (hib : i < b.length)
    (hne : a[i] ≠ b[i]) (hj : ∀ j, j < i → a[j]? = b[j]?) :
    Ev (fun k => spec_orTurn.f k W D (txt a) (txt b)) ((i : Int), if (a[i] + 1) % D = b[i] then 1 else -1) := by
  unfold spec_orTurn.f
  refine Ev.bind (whDigits_ev _ (by rw [txt_size]; omega)) (Ev.bind (whDigits_ev _ (by rw [txt_size]; omega)) ?_)
  rw [digs_txt (IsD.mono ha hD.2), digs_txt (IsD.mono hb hD.2)]
  refine ev_loop (g := fun j k => spec_orTurn.l0 k a b (a.length : Int) (j : Int) W D) i ?_ ?_
  · intro j hji ih
    have e := hj j hji
    rw [List.getElem?_eq_getElem (by omega), List.getElem?_eq_getElem (by omega)] at e
    have e' := Option.some.inj e
    refine Ev.succ ?_
    simp only [spec_orTurn.l0, if_pos (show (j : Int) < (a.length : Int) by omega), if_pos (show (0 : Int) ≤ (j : Int) by omega), if_pos (show (j : Int) < (b.length : Int) by omega), rd_get a j (by omega), rd_get b j (by omega), if_pos e', w64 (x := (j : Int) + 1) (by omega) (by omega)]
    exact ih
  · have x := IsD.get ha hi
    refine Ev.succ ?_
    simp only [spec_orTurn.l0, if_pos (show (i : Int) < (a.length : Int) by omega), if_pos (show (0 : Int) ≤ (i : Int) by omega), if_pos (show (i : Int) < (b.length : Int) by omega), rd_get a i hi, rd_get b i hib, if_neg hne, w64 (x := a[i] + 1) (by omega) (by omega), l1Mod_eq (D := D) (by omega), Option.bind_some]
    split
    · exact Ev.now _
    · exact Ev.now _
theorem between_ev {W D : Int} (h : LK W D) {a b : List Int} (ha : IsD D a) (hb : IsD D b) (hl : a.length = W.toNat) (hlb : b.length = W.toNat) {i : Nat} (hi : i < a.length) (hib : i < b.length)
    (hne : a[i] ≠ b[i]) (hj : ∀ j, j < i → a[j]? = b[j]?) (hset : (b[i] = (a[i] + 1) % D ∧ b = a.set i ((a[i] + 1) % D)) ∨ (b[i] ≠ (a[i] + 1) % D ∧ b = a.set i ((a[i] - 1) % D))) :
    Ev (fun k => impl_Lock_between.f k W D (txt a) (txt b)) ((i : Int), (if (a[i] + 1) % D = b[i] then 1 else -1), true) := by
  obtain ⟨hw, hw6, hw0⟩ := LK.w h
  have hD := LK.d h
  have hD0 : 0 < D := by omega
  unfold impl_Lock_between.f
  have ht := turns_ev hw6
  rw [hw] at ht
  refine Ev.bind ht ?_
  have tl : (trns W.toNat).length = 2 * W.toNat := by simp [trns]
  have tg : ∀ m, m < 2 * W.toNat → rd_T66 (trns W.toNat) (m : Int) = trn m := by
    intro m hm
    unfold rd_T66 trns
    rw [Int.toNat_natCast, List.getD_eq_getElem?_getD, List.getElem?_map, List.getElem?_range hm]; rfl
  have ga : a.getD i 0 = a[i] := by rw [List.getD_eq_getElem?_getD, List.getElem?_eq_getElem hi]; rfl
  have miss : ∀ m, m < 2 * i → tur D (m / 2) (trn m).f1 a ≠ b := by
    intro m hm e
    apply hne
    have : (tur D (m / 2) (trn m).f1 a)[i]? = a[i]? := by unfold tur; rw [List.getElem?_set_ne (by omega)]
    rw [e, List.getElem?_eq_getElem hi, List.getElem?_eq_getElem hib] at this
    exact (Option.some.inj this).symm
  have one : ∀ m, m < 2 * W.toNat → ∀ {R : Int × Int × Bool}, (tur D (m / 2) (trn m).f1 a = b → R = ((trn m).f0, (trn m).f1, true)) → (tur D (m / 2) (trn m).f1 a ≠ b → Ev (fun k => impl_Lock_between.l0 k (txt a) (txt b) (trns W.toNat) ((trns W.toNat).length : Int) ((m + 1 : Nat) : Int) W D) R) →
      Ev (fun k => impl_Lock_between.l0 k (txt a) (txt b) (trns W.toNat) ((trns W.toNat).length : Int) (m : Int) W D) R := by
    intro m hm R h1 h2
    refine Ev.succ ?_
    have f0 : (trn m).f0 = ((m / 2 : Nat) : Int) := rfl
    have f1 : (trn m).f1 = 1 ∨ (trn m).f1 = -1 := by unfold trn; by_cases q : m % 2 = 0 <;> simp [q]
    simp only [impl_Lock_between.l0, tl, if_pos (show (m : Int) < ((2 * W.toNat : Nat) : Int) by omega), if_pos (show (0 : Int) ≤ (m : Int) by omega), tg m hm, f0, w64 (x := (m : Int) + 1) (by omega) (by omega)]
    refine Ev.bind (turned_ev hD ha (by omega) (i := m / 2) (by omega) (by omega)) ?_
    by_cases e : tur D (m / 2) (trn m).f1 a = b
    · simp only [if_pos (toList_inj.mpr (congrArg txt e)), h1 e, f0]
      exact Ev.now _
    · simp only [if_neg (show ¬ (txt (tur D (m / 2) (trn m).f1 a)).toList = (txt b).toList from fun q => e (txt_inj (IsD.mono (tur_isD hD0 ha _ _) hD.2) (IsD.mono hb hD.2) (toList_inj.mp q)))]
      have := h2 e
      rw [tl] at this
      exact this
  refine ev_loop (g := fun m k => impl_Lock_between.l0 k (txt a) (txt b) (trns W.toNat) ((trns W.toNat).length : Int) (m : Int) W D) (2 * i) ?_ ?_
  · intro m hm ih
    exact one m (by omega) (fun e => absurd e (miss m hm)) (fun _ => ih)
  · have e0 : (2 * i) / 2 = i := by omega
    have f1 : (trn (2 * i)).f1 = 1 := by unfold trn; simp
    refine one (2 * i) (by omega) ?_ ?_
    · intro e
      rw [e0, f1] at e
      have e3 : b[i] = (a[i] + 1) % D := by
        have q : (tur D i 1 a)[i]? = b[i]? := by rw [e]
        unfold tur at q
        rw [List.getElem?_set_self hi, ga, List.getElem?_eq_getElem hib] at q
        exact (Option.some.inj q).symm
      rw [if_pos e3.symm, f1]
      simp only [trn, e0]
    · intro e
      rw [e0, f1] at e
      have e3 : b[i] ≠ (a[i] + 1) % D := by
        intro q
        rcases hset with ⟨_, g⟩ | ⟨g, _⟩
        · apply e; unfold tur; rw [ga]; exact g.symm
        · exact g q
      have o0 : (2 * i + 1) / 2 = i := by omega
      have o1 : (trn (2 * i + 1)).f1 = -1 := by
        unfold trn
        simp only [show ¬ ((2 * i + 1) % 2 = 0) by omega, if_false]
      refine one (2 * i + 1) (by omega) ?_ ?_
      · intro _
        rw [if_neg (fun q => e3 q.symm), o1]
        simp only [trn, o0]
      · intro q
        exfalso
        apply q
        rw [o0, o1]
        rcases hset with ⟨g, _⟩ | ⟨_, g⟩
        · exact absurd g e3
        · unfold tur; rw [ga]; exact g.symm
/-- Both, from a code to one at the distance 1. -/
theorem both_turn {W D : Int} (h : LK W D) {a b : List Int} (ha : IsD D a) (hb : IsD D b) (hl : a.length = W.toNat) (hlb : b.length = W.toNat) (hn : Nx D a b) :
    ∃ i e : Int, Ev (fun k => spec_orTurn.f k W D (txt a) (txt b)) (i, e) ∧ Ev (fun k => impl_Lock_between.f k W D (txt a) (txt b)) (i, e, true) := by
  obtain ⟨hw, hw6, hw0⟩ := LK.w h
  obtain ⟨i, hi, hib, h1, h2, h3⟩ := nx_at (hl.trans hlb.symm) hn
  exact ⟨_, _, orTurn_ev (LK.d h) ha hb (by omega) (by omega) hi hib h1 h2, between_ev h ha hb hl hlb hi hib h1 h2 h3⟩
end Go.Proofs.Ytihhiolflbieaaa.O2
namespace Go.Proofs.Ytihhiolflbieaaa.R
open Go.RowKit Go.Proofs.Ytihhiolflbieaaa.P Go.Proofs.Ytihhiolflbieaaa.B Go.Proofs.Ytihhiolflbieaaa.C Go.Proofs.Ytihhiolflbieaaa.L Go.Proofs.Ytihhiolflbieaaa.A Go.Proofs.Ytihhiolflbieaaa.O Go.Proofs.Ytihhiolflbieaaa.O2 Go.Proofs.YtihhiolflbieaaaW.PrintWords Go.Proofs.YtihhiolflbieaaaW.PrintLast Go.Proofs.YtihhiolflbieaaaW.PrintMore
set_option linter.unusedVariables false
set_option linter.unusedSimpArgs false
/-- A lock of rings. -/
def RK (W D : Int) : Prop := LK W D ∧ cnt W D ≤ 1000
instance (W D : Int) : Decidable (RK W D) := by unfold RK; infer_instance
theorem byte_inj {s t : ByteArray} (h : s.data.toList = t.data.toList) : s = t := ByteArray.ext (Array.ext' h)
end Go.Proofs.Ytihhiolflbieaaa.R
namespace Go.Proofs.Ytihhiolflbieaaa.RS
open Go.RowKit Go.Proofs.Ytihhiolflbieaaa.P Go.Proofs.Ytihhiolflbieaaa.B Go.Proofs.Ytihhiolflbieaaa.C Go.Proofs.Ytihhiolflbieaaa.L Go.Proofs.Ytihhiolflbieaaa.A Go.Proofs.Ytihhiolflbieaaa.O Go.Proofs.Ytihhiolflbieaaa.O2 Go.Proofs.Ytihhiolflbieaaa.R Go.Proofs.YtihhiolflbieaaaW.PrintWords Go.Proofs.YtihhiolflbieaaaW.PrintLast Go.Proofs.YtihhiolflbieaaaW.PrintMore
set_option linter.unusedVariables false
set_option linter.unusedSimpArgs false
theorem whNumber_ev (W : Int) {D : Int} (hD : 2 ≤ D ∧ D ≤ 10) (s : ByteArray) (hs : s.size ≤ 15) (h : isT D s = true) : Ev (fun k => spec_whNumber.f k W D s) (num D (digs s)) := by
  unfold spec_whNumber.f
  refine Ev.bind (whDigits_ev s (by omega)) ?_
  have hd := digs_isD hD h (W := W)
  have hl : (digs s).length ≤ 15 := by rw [digs_len]; exact hs
  generalize digs s = d at *
  refine ev_loop (g := fun j k => spec_whNumber.l0 k (num D (d.take j)) d (d.length : Int) (j : Int) W D) d.length ?_ ?_
  · intro j hj ih
    have b := num_small hD (IsD.take hd j) (by rw [List.length_take]; omega)
    have x := IsD.get hd hj
    have hm : num D (d.take j) * D ≤ num D (d.take j) * 10 := Int.mul_le_mul_of_nonneg_left hD.2 b.1
    have hm0 : 0 ≤ num D (d.take j) * D := Int.mul_nonneg b.1 (by omega)
    refine Ev.succ ?_
    simp only [spec_whNumber.l0, if_pos (show (j : Int) < (d.length : Int) by omega), if_pos (show (0 : Int) ≤ (j : Int) by omega), rd_get d j hj, w64 (x := num D (d.take j) * D) (by omega) (by omega), w64 (x := num D (d.take j) * D + d[j]) (by omega) (by omega), w64 (x := (j : Int) + 1) (by omega) (by omega)]
    rw [List.take_succ_eq_append_getElem hj, num_snoc] at ih
    exact ih
  · refine Ev.succ ?_
    simp only [spec_whNumber.l0, if_neg (show ¬ ((d.length : Nat) : Int) < (d.length : Int) by omega)]
    rw [List.take_of_length_le (Nat.le_refl _)]
    exact Ev.now _
/-- The number of a code. -/
def nu (D : Int) (s : ByteArray) : Int := num D (digs s)
theorem nu_bd {W D : Int} (h : LK W D) {s : ByteArray} (hc : isC W D s = true) : 0 ≤ nu D s ∧ nu D s < cnt W D := by
  obtain ⟨h1, h2, h3⟩ := codeOf h hc
  have := num_bd (show 0 < D by have := LK.d h; omega) _ h2
  rw [h1] at this
  unfold nu cnt
  omega
theorem nu_cod {W D : Int} (h : LK W D) {s : ByteArray} (hc : isC W D s = true) : s = txt (cod D W.toNat (nu D s)) := by
  obtain ⟨h1, h2, h3⟩ := codeOf h hc
  unfold nu
  rw [← h1, cod_num (show 0 < D by have := LK.d h; omega) _ h2, h3]
theorem nu_inj {W D : Int} (h : LK W D) {s t : ByteArray} (hs : isC W D s = true) (ht : isC W D t = true) (e : nu D s = nu D t) : s = t := by
  rw [nu_cod h hs, nu_cod h ht, e]
def tabl (ns : List Int) (C : Nat) : List Bool := (List.range C).map fun n : Nat => decide ((n : Int) ∈ ns)
theorem tabl_len (ns : List Int) (C : Nat) : (tabl ns C).length = C := by simp [tabl]
theorem tabl_set (ns : List Int) (C : Nat) (m : Int) (h0 : 0 ≤ m) (h1 : m < (C : Int)) : (tabl ns C).set m.toNat true = tabl (ns ++ [m]) C := by
  apply List.ext_getElem
  · simp [tabl]
  · intro i hi hi'
    rw [List.length_set, tabl_len] at hi
    rw [List.getElem_set]
    by_cases e : m.toNat = i
    · rw [if_pos e]
      simp only [tabl, List.getElem_map, List.getElem_range]
      symm
      refine decide_eq_true (List.mem_append_right _ ?_)
      rw [List.mem_singleton]; omega
    · rw [if_neg e]
      simp only [tabl, List.getElem_map, List.getElem_range]
      rw [decide_eq_decide, List.mem_append, List.mem_singleton]
      constructor
      · exact fun h => .inl h
      · rintro (h | h)
        · exact h
        · omega
theorem tabl_get (ns : List Int) (C : Nat) {n : Nat} (h : n < C) : (tabl ns C).getD n false = decide ((n : Int) ∈ ns) := by
  rw [List.getD_eq_getElem?_getD, List.getElem?_eq_getElem (by rw [tabl_len]; exact h)]
  simp [tabl]
end Go.Proofs.Ytihhiolflbieaaa.RS
namespace Go.Proofs.Ytihhiolflbieaaa.D1
open Go.RowKit Go.Proofs.Ytihhiolflbieaaa.P Go.Proofs.Ytihhiolflbieaaa.B Go.Proofs.Ytihhiolflbieaaa.C Go.Proofs.Ytihhiolflbieaaa.L Go.Proofs.Ytihhiolflbieaaa.A Go.Proofs.Ytihhiolflbieaaa.O Go.Proofs.Ytihhiolflbieaaa.O2 Go.Proofs.Ytihhiolflbieaaa.R Go.Proofs.Ytihhiolflbieaaa.RS Go.Proofs.YtihhiolflbieaaaW.PrintWords Go.Proofs.YtihhiolflbieaaaW.PrintLast Go.Proofs.YtihhiolflbieaaaW.PrintMore
set_option linter.unusedVariables false
set_option linter.unusedSimpArgs false
def nr (D x y : Int) : Int := if (y - x) % D < D - (y - x) % D then (y - x) % D else D - (y - x) % D
theorem sub_mod {D x y : Int} (hx : 0 ≤ x ∧ x < D) (hy : 0 ≤ y ∧ y < D) : (y - x) % D = if x ≤ y then y - x else y - x + D := by
  split
  · exact Int.emod_eq_of_lt (by omega) (by omega)
  · rw [← Int.add_emod_right]; exact Int.emod_eq_of_lt (by omega) (by omega)
theorem up_mod {D x : Int} (hx : 0 ≤ x ∧ x < D) (hD : 2 ≤ D) : (x + 1) % D = if x + 1 < D then x + 1 else 0 := by
  split
  · exact Int.emod_eq_of_lt (by omega) (by omega)
  · have : x + 1 = D := by omega
    rw [this, Int.emod_self]
theorem dn_mod {D x : Int} (hx : 0 ≤ x ∧ x < D) (hD : 2 ≤ D) : (x - 1) % D = if 0 < x then x - 1 else D - 1 := by
  split
  · exact Int.emod_eq_of_lt (by omega) (by omega)
  · rw [← Int.add_emod_right]; have : x - 1 + D = D - 1 := by omega
    rw [this]; exact Int.emod_eq_of_lt (by omega) (by omega)
theorem nr_bd {D x y : Int} (hD : 2 ≤ D) : 0 ≤ nr D x y ∧ 2 * nr D x y ≤ D := by
  have h1 := Int.emod_nonneg (y - x) (b := D) (by omega)
  have h2 := Int.emod_lt_of_pos (y - x) (b := D) (by omega)
  unfold nr; split <;> omega
theorem nr_zero {D x y : Int} (hD : 2 ≤ D) (hx : 0 ≤ x ∧ x < D) (hy : 0 ≤ y ∧ y < D) : nr D x y = 0 ↔ x = y := by
  unfold nr; rw [sub_mod hx hy]; split <;> split <;> omega
theorem nr_one {D x y : Int} (hD : 2 ≤ D) (hx : 0 ≤ x ∧ x < D) (hy : 0 ≤ y ∧ y < D) : nr D x y = 1 ↔ x ≠ y ∧ (y = (x + 1) % D ∨ y = (x - 1) % D) := by
  unfold nr; rw [sub_mod hx hy, up_mod hx hD, dn_mod hx hD]; split <;> split <;> split <;> split <;> omega
def dst (D : Int) : List Int → List Int → Int
  | x :: xs, y :: ys => nr D x y + dst D xs ys
  | _, _ => 0
theorem dst_nonneg {D : Int} (hD : 2 ≤ D) : ∀ a b : List Int, 0 ≤ dst D a b ∧ dst D a b ≤ D * (a.length : Int)
  | [], _ => by simp [dst]
  | _ :: _, [] => by simp only [dst, List.length_cons]; exact ⟨by omega, Int.mul_nonneg (by omega) (by omega)⟩
  | x :: xs, y :: ys => by
    have h1 := nr_bd (x := x) (y := y) hD
    have h2 := dst_nonneg hD xs ys
    simp only [dst, List.length_cons]
    rw [show (((xs.length + 1 : Nat)) : Int) = (xs.length : Int) + 1 by omega, Int.mul_add]
    omega
theorem dst_zero {D : Int} (hD : 2 ≤ D) : ∀ {a b : List Int}, IsD D a → IsD D b → a.length = b.length → (dst D a b = 0 ↔ a = b)
  | [], [], _, _, _ => by simp [dst]
  | [], _ :: _, _, _, h => by simp at h
  | _ :: _, [], _, _, h => by simp at h
  | x :: xs, y :: ys, ha, hb, hl => by
    obtain ⟨hx, ha'⟩ := IsD.cons ha
    obtain ⟨hy, hb'⟩ := IsD.cons hb
    have h1 := nr_bd (x := x) (y := y) hD
    have h2 := dst_nonneg hD xs ys
    have h3 := nr_zero hD hx hy
    have h4 := dst_zero hD ha' hb' (by simpa using hl)
    simp only [dst, List.cons.injEq]
    constructor
    · intro e; exact ⟨h3.mp (by omega), h4.mp (by omega)⟩
    · rintro ⟨e1, e2⟩; have := h3.mpr e1; have := h4.mpr e2; omega
theorem dst_one {D : Int} (hD : 2 ≤ D) : ∀ {a b : List Int}, IsD D a → IsD D b → a.length = b.length → (dst D a b = 1 ↔ Nx D a b)
  | [], [], _, _, _ => by simp [dst, Nx]
  | [], _ :: _, _, _, h => by simp at h
  | _ :: _, [], _, _, h => by simp at h
  | x :: xs, y :: ys, ha, hb, hl => by
    obtain ⟨hx, ha'⟩ := IsD.cons ha
    obtain ⟨hy, hb'⟩ := IsD.cons hb
    have hl' : xs.length = ys.length := by simpa using hl
    have h1 := nr_bd (x := x) (y := y) hD
    have h2 := dst_nonneg hD xs ys
    have h3 := nr_zero hD hx hy
    have h4 := dst_zero hD ha' hb' hl'
    have h5 := nr_one hD hx hy
    have h6 := dst_one hD ha' hb' hl'
    simp only [dst, Nx]
    constructor
    · intro e
      by_cases q : nr D x y = 0
      · exact .inl ⟨h3.mp q, h6.mp (by omega)⟩
      · have := h5.mp (by omega)
        exact .inr ⟨h4.mp (by omega), this.1, this.2⟩
    · rintro (⟨e1, e2⟩ | ⟨e1, e2, e3⟩)
      · have := h3.mpr e1; have := h6.mpr e2; omega
      · have := h4.mpr e1; have := h5.mpr ⟨e2, e3⟩; omega
theorem bt_dig {D : Int} (hD : 2 ≤ D ∧ D ≤ 10) {s : ByteArray} (h : isT D s = true) {j : Nat} (hj : j < (digs s).length) : bt s (j : Int) = 48 + (digs s)[j] := by
  have hj' : j < s.data.toList.length := by rw [digs_len] at hj; rw [← size_len]; exact hj
  have e := digs_get s j hj
  have b := bt_nat s j hj'
  unfold isT at h
  rw [List.all_eq_true] at h
  have q := of_decide_eq_true (h _ (List.getElem_mem hj'))
  rw [e]; omega
theorem near_eq {W D a b : Int} (hD : 2 ≤ D ∧ D ≤ 10) (ha : 0 ≤ a ∧ a ≤ 1000) (hb : 0 ≤ b ∧ b ≤ 1000) : impl_Lock_near.f W D a b = some (nr D a b) := by
  have h1 := Int.emod_nonneg (b - a) (b := D) (by omega)
  have h2 := Int.emod_lt_of_pos (b - a) (b := D) (by omega)
  unfold impl_Lock_near.f impl_Lock_gap.f
  rw [w64 (x := b - a) (by omega) (by omega), around_eq (D := D) (by omega)]
  simp only [Option.bind_some]
  rw [w64 (x := D - (b - a) % D) (by omega) (by omega)]
  unfold nr mn
  congr 1
  split <;> split <;> omega
theorem distance_ev {W D : Int} (hD : 2 ≤ D ∧ D ≤ 10) {s t : ByteArray} (hs : isT D s = true) (ht : isT D t = true) (hl : s.size = t.size) (hz : s.size ≤ 1000) : Ev (fun k => impl_Lock_distance.f k W D s t) (dst D (digs s) (digs t)) := by
  unfold impl_Lock_distance.f
  have a1 := digs_len s
  have a2 := digs_len t
  have d1 := digs_isD (W := W) hD hs
  have d2 := digs_isD (W := W) hD ht
  have key : ∀ m j : Nat, s.size - j = m → j ≤ s.size → ∀ acc : Int, 0 ≤ acc → acc ≤ 10 * (j : Int) → acc + dst D ((digs s).drop j) ((digs t).drop j) = dst D (digs s) (digs t) → Ev (fun k => impl_Lock_distance.l0 k s t acc (s.size : Int) (j : Int) W D) (dst D (digs s) (digs t)) := by
    intro m
    induction m with
    | zero =>
      intro j hm hj acc h0 h1 he
      obtain rfl : j = s.size := by omega
      rw [List.drop_of_length_le (by omega)] at he
      simp only [dst] at he
      refine Ev.succ ?_
      simp only [impl_Lock_distance.l0, if_neg (show ¬ ((s.size : Nat) : Int) < (s.size : Int) by omega)]
      rw [← he, Int.add_zero]; exact Ev.now _
    | succ m ih =>
      intro j hm hj acc h0 h1 he
      have e1 := bt_dig hD hs (j := j) (by omega)
      have e2 := bt_dig hD ht (j := j) (by omega)
      have g1 := IsD.get d1 (j := j) (by omega)
      have g2 := IsD.get d2 (j := j) (by omega)
      have nb := nr_bd (x := (digs s)[j]'(by omega)) (y := (digs t)[j]'(by omega)) hD.1
      have ne : nr D (48 + (digs s)[j]'(by omega)) (48 + (digs t)[j]'(by omega)) = nr D ((digs s)[j]'(by omega)) ((digs t)[j]'(by omega)) := by
        unfold nr; rw [show 48 + (digs t)[j]'(by omega) - (48 + (digs s)[j]'(by omega)) = (digs t)[j]'(by omega) - (digs s)[j]'(by omega) by omega]
      rw [List.drop_eq_getElem_cons (show j < (digs s).length by omega), List.drop_eq_getElem_cons (show j < (digs t).length by omega)] at he
      simp only [dst] at he
      refine Ev.succ ?_
      simp only [impl_Lock_distance.l0, if_pos (show (j : Int) < (s.size : Int) by omega), if_pos (show (0 : Int) ≤ (j : Int) by omega), if_pos (show (j : Int) < (t.size : Int) by omega), w64 (x := bt s j) (by omega) (by omega), w64 (x := bt t j) (by omega) (by omega), w64 (x := (j : Int) + 1) (by omega) (by omega)]
      rw [e1, e2, near_eq hD (by omega) (by omega), ne]
      simp only [Option.bind_some, w64 (x := acc + nr D ((digs s)[j]'(by omega)) ((digs t)[j]'(by omega))) (by omega) (by omega)]
      exact ih (j + 1) (by omega) (by omega) _ (by omega) (by omega) (by omega)
  exact key s.size 0 (by omega) (by omega) 0 (by omega) (by omega) (by simp)
theorem whFar_eq {W D a b : Int} (hD : 2 ≤ D ∧ D ≤ 10) (ha : 0 ≤ a ∧ a ≤ 1000) (hb : 0 ≤ b ∧ b ≤ 1000) : spec_whFar.f W D a b = some ((b - a) % D, (D - (b - a) % D) % D) := by
  have h1 := Int.emod_nonneg (b - a) (b := D) (by omega)
  have h2 := Int.emod_lt_of_pos (b - a) (b := D) (by omega)
  unfold spec_whFar.f
  rw [w64 (x := b - a) (by omega) (by omega), l1Mod_eq (D := D) (by omega)]
  simp only [Option.bind_some]
  rw [if_neg (by omega), w64 (x := D - (b - a) % D) (by omega) (by omega), Int.tmod_eq_emod_of_nonneg (by omega)]
theorem least_eq (a b : Int) : spec_l1Least.f a b = some (if a < b then a else b) := by
  unfold spec_l1Least.f; split <;> rfl
theorem far_nr {D a b : Int} (hD : 2 ≤ D) : (if (b - a) % D < (D - (b - a) % D) % D then (b - a) % D else (D - (b - a) % D) % D) = nr D a b := by
  have h1 := Int.emod_nonneg (b - a) (b := D) (by omega)
  have h2 := Int.emod_lt_of_pos (b - a) (b := D) (by omega)
  unfold nr
  generalize (b - a) % D = u at *
  by_cases h : u = 0
  · subst h
    rw [Int.sub_zero, Int.emod_self]
    simp; omega
  · rw [Int.emod_eq_of_lt (a := D - u) (by omega) (by omega)]
theorem whDistance_ev {W D : Int} (hD : 2 ≤ D ∧ D ≤ 10) {s t : ByteArray} (hs : isT D s = true) (ht : isT D t = true) (hl : s.size = t.size) (hz : s.size ≤ 1000) : Ev (fun k => spec_whDistance.f k W D s t) (dst D (digs s) (digs t)) := by
  unfold spec_whDistance.f
  have d1 := digs_isD (W := W) hD hs
  have d2 := digs_isD (W := W) hD ht
  refine Ev.bind (whDigits_ev s (by omega)) (Ev.bind (whDigits_ev t (by omega)) ?_)
  have a1 := digs_len s
  have a2 := digs_len t
  generalize digs s = a at *
  generalize digs t = b at *
  have key : ∀ m j : Nat, a.length - j = m → j ≤ a.length → ∀ acc : Int, 0 ≤ acc → acc ≤ 10 * (j : Int) → acc + dst D (a.drop j) (b.drop j) = dst D a b → Ev (fun k => spec_whDistance.l0 k a b acc (a.length : Int) (j : Int) W D) (dst D a b) := by
    intro m
    induction m with
    | zero =>
      intro j hm hj acc h0 h1 he
      obtain rfl : j = a.length := by omega
      rw [List.drop_of_length_le (by omega)] at he
      simp only [dst] at he
      refine Ev.succ ?_
      simp only [spec_whDistance.l0, if_neg (show ¬ ((a.length : Nat) : Int) < (a.length : Int) by omega)]
      rw [← he, Int.add_zero]; exact Ev.now _
    | succ m ih =>
      intro j hm hj acc h0 h1 he
      have g1 := IsD.get d1 (j := j) (by omega)
      have g2 := IsD.get d2 (j := j) (by omega)
      have nb := nr_bd (x := a[j]'(by omega)) (y := b[j]'(by omega)) hD.1
      rw [List.drop_eq_getElem_cons (show j < a.length by omega), List.drop_eq_getElem_cons (show j < b.length by omega)] at he
      simp only [dst] at he
      refine Ev.succ ?_
      simp only [spec_whDistance.l0, if_pos (show (j : Int) < (a.length : Int) by omega), if_pos (show (0 : Int) ≤ (j : Int) by omega), if_pos (show (j : Int) < (b.length : Int) by omega), rd_get a j (by omega), rd_get b j (by omega), w64 (x := (j : Int) + 1) (by omega) (by omega)]
      rw [whFar_eq hD (by omega) (by omega)]
      simp only [Option.bind_some, least_eq, far_nr hD.1, w64 (x := acc + nr D (a[j]'(by omega)) (b[j]'(by omega))) (by omega) (by omega)]
      exact ih (j + 1) (by omega) (by omega) _ (by omega) (by omega) (by omega)
  exact key a.length 0 (by omega) (by omega) 0 (by omega) (by omega) (by simp)
/-- The distance of texts. -/
def ds (D : Int) (s t : ByteArray) : Int := dst D (digs s) (digs t)
theorem codes_ds {W D : Int} (h : LK W D) {s t : ByteArray} (hs : isC W D s = true) (ht : isC W D t = true) :
    Ev (fun k => impl_Lock_distance.f k W D s t) (ds D s t) ∧ Ev (fun k => spec_whDistance.f k W D s t) (ds D s t) := by
  have z1 := isC_size hs; have z2 := isC_size ht; have w := LK.w h
  exact ⟨distance_ev h.2.2 (isC_isT hs) (isC_isT ht) (by omega) (by omega), whDistance_ev h.2.2 (isC_isT hs) (isC_isT ht) (by omega) (by omega)⟩
theorem ds_nx {W D : Int} (h : LK W D) {s t : ByteArray} (hs : isC W D s = true) (ht : isC W D t = true) : ds D s t = 1 ↔ Nx D (digs s) (digs t) := by
  obtain ⟨l1, d1, e1⟩ := codeOf h hs
  obtain ⟨l2, d2, e2⟩ := codeOf h ht
  exact dst_one h.2.2.1 d1 d2 (by omega)
theorem tur_nx {D : Int} (hD : 2 ≤ D) : ∀ {a : List Int} {i : Nat} {e : Int}, IsD D a → i < a.length → e = 1 ∨ e = -1 → Nx D a (tur D i e a)
  | [], i, e, _, hi, _ => absurd hi (by simp)
  | x :: xs, 0, e, ha, hi, he => by
    obtain ⟨hx, _⟩ := IsD.cons ha
    have u := up_mod hx hD; have d := dn_mod hx hD
    unfold tur
    simp only [List.getD_cons_zero, List.set_cons_zero, Nx]
    right
    refine ⟨trivial, ?_, ?_⟩
    · rcases he with rfl | rfl
      · rw [u]; split <;> omega
      · rw [show x + -1 = x - 1 by omega, d]; split <;> omega
    · rcases he with rfl | rfl
      · exact .inl rfl
      · exact .inr (by rw [show x + -1 = x - 1 by omega])
  | x :: xs, i + 1, e, ha, hi, he => by
    obtain ⟨_, ha'⟩ := IsD.cons ha
    have := tur_nx hD (a := xs) (i := i) (e := e) ha' (by simpa using hi) he
    unfold tur at this ⊢
    simp only [List.getD_cons_succ, List.set_cons_succ, Nx]
    exact .inl ⟨trivial, this⟩
theorem between_no {W D : Int} (h : LK W D) {a b : List Int} (ha : IsD D a) (hb : IsD D b) (hl : a.length = W.toNat) (hlb : b.length = W.toNat) (hn : ¬ Nx D a b) : Ev (fun k => impl_Lock_between.f k W D (txt a) (txt b)) (0, 0, false) := by
  obtain ⟨hw, hw6, hw0⟩ := LK.w h
  have hD := LK.d h
  have hD0 : 0 < D := by omega
  unfold impl_Lock_between.f
  have ht := turns_ev hw6
  rw [hw] at ht
  refine Ev.bind ht ?_
  have tl : (trns W.toNat).length = 2 * W.toNat := by simp [trns]
  have tg : ∀ m, m < 2 * W.toNat → rd_T66 (trns W.toNat) (m : Int) = trn m := by
    intro m hm
    unfold rd_T66 trns
    rw [Int.toNat_natCast, List.getD_eq_getElem?_getD, List.getElem?_map, List.getElem?_range hm]; rfl
  refine ev_loop (g := fun m k => impl_Lock_between.l0 k (txt a) (txt b) (trns W.toNat) ((trns W.toNat).length : Int) (m : Int) W D) (2 * W.toNat) ?_ ?_
  · intro m hm ih
    refine Ev.succ ?_
    have f0 : (trn m).f0 = ((m / 2 : Nat) : Int) := rfl
    have f1 : (trn m).f1 = 1 ∨ (trn m).f1 = -1 := by unfold trn; by_cases q : m % 2 = 0 <;> simp [q]
    simp only [impl_Lock_between.l0, tl, if_pos (show (m : Int) < ((2 * W.toNat : Nat) : Int) by omega), if_pos (show (0 : Int) ≤ (m : Int) by omega), tg m hm, f0, w64 (x := (m : Int) + 1) (by omega) (by omega)]
    refine Ev.bind (turned_ev hD ha (by omega) (i := m / 2) (by omega) (by omega)) ?_
    have e : tur D (m / 2) (trn m).f1 a ≠ b := fun e => hn (e ▸ tur_nx hD.1 ha (by omega) f1)
    simp only [if_neg (show ¬ (txt (tur D (m / 2) (trn m).f1 a)).toList = (txt b).toList from fun q => e (txt_inj (IsD.mono (tur_isD hD0 ha _ _) hD.2) (IsD.mono hb hD.2) (toList_inj.mp q)))]
    rw [tl] at ih
    exact ih
  · refine Ev.succ ?_
    simp only [impl_Lock_between.l0, tl, if_neg (show ¬ ((2 * W.toNat : Nat) : Int) < ((2 * W.toNat : Nat) : Int) by omega)]
    exact Ev.now _
end Go.Proofs.Ytihhiolflbieaaa.D1
namespace Go.Proofs.Ytihhiolflbieaaa.D2
open Go.RowKit Go.Proofs.Ytihhiolflbieaaa.P Go.Proofs.Ytihhiolflbieaaa.B Go.Proofs.Ytihhiolflbieaaa.C Go.Proofs.Ytihhiolflbieaaa.L Go.Proofs.Ytihhiolflbieaaa.A Go.Proofs.Ytihhiolflbieaaa.O Go.Proofs.Ytihhiolflbieaaa.O2 Go.Proofs.Ytihhiolflbieaaa.R Go.Proofs.Ytihhiolflbieaaa.RS Go.Proofs.Ytihhiolflbieaaa.D1 Go.Proofs.YtihhiolflbieaaaW.PrintWords Go.Proofs.YtihhiolflbieaaaW.PrintLast Go.Proofs.YtihhiolflbieaaaW.PrintMore
set_option linter.unusedVariables false
set_option linter.unusedSimpArgs false
def gt (l : List ByteArray) (j : Nat) : ByteArray := l.getD j ByteArray.empty
theorem rd_gt (l : List ByteArray) (j : Nat) : rdOf ByteArray.empty l (j : Int) = gt l j := by unfold rdOf gt; rw [Int.toNat_natCast]
theorem gt_get (l : List ByteArray) {j : Nat} (h : j < l.length) : gt l j = l[j] := by unfold gt; rw [List.getD_eq_getElem?_getD, List.getElem?_eq_getElem h]; rfl
theorem gt_mem (l : List ByteArray) {j : Nat} (h : j < l.length) : gt l j ∈ l := by rw [gt_get l h]; exact List.getElem_mem h
def hasS (l : List ByteArray) (s : ByteArray) : Bool := l.any fun t => decide (t.data.toList = s.data.toList)
theorem hasS_iff (l : List ByteArray) (s : ByteArray) : hasS l s = true ↔ s ∈ l := by
  unfold hasS
  rw [List.any_eq_true]
  constructor
  · rintro ⟨t, ht, e⟩; rw [← byte_inj (of_decide_eq_true e)]; exact ht
  · intro h; exact ⟨s, h, decide_eq_true rfl⟩
/-- The j-th text goes on with an order. -/
def okAt (W D : Int) (l : List ByteArray) (j : Nat) : Bool := isC W D (gt l j) && (!hasS (l.take j) (gt l j) && (decide (j = 0) || decide (ds D (gt l (j - 1)) (gt l j) = 1)))
def allFrom (W D : Int) (l : List ByteArray) (j : Nat) : Bool := (List.range (l.length - j)).all fun i => okAt W D l (j + i)
theorem all_step (W D : Int) (l : List ByteArray) {j : Nat} (h : j < l.length) : allFrom W D l j = (okAt W D l j && allFrom W D l (j + 1)) := by
  unfold allFrom
  rw [show l.length - j = (l.length - (j + 1)) + 1 by omega, List.range_succ_eq_map, List.all_cons, List.all_map, Nat.add_zero]
  congr 2
  funext i
  show okAt W D l (j + (i + 1)) = _
  rw [show j + (i + 1) = j + 1 + i by omega]
theorem all_end (W D : Int) (l : List ByteArray) : allFrom W D l l.length = true := by unfold allFrom; simp
theorem okAt_C {W D : Int} {l : List ByteArray} {j : Nat} (h : okAt W D l j = true) : isC W D (gt l j) = true := by
  unfold okAt at h; rw [Bool.and_eq_true] at h; exact h.1
theorem seen_iff {W D : Int} (h : LK W D) {l : List ByteArray} {j : Nat} (hj : j < l.length) (hok : ∀ i, i < j → okAt W D l i = true) (hc : isC W D (gt l j) = true) :
    decide (((nu D (gt l j)).toNat : Int) ∈ (l.take j).map (nu D)) = hasS (l.take j) (gt l j) := by
  have b := nu_bd h hc
  rw [Bool.eq_iff_iff, decide_eq_true_eq, hasS_iff, List.mem_map]
  rw [show ((nu D (gt l j)).toNat : Int) = nu D (gt l j) by omega]
  constructor
  · rintro ⟨t, ht, e⟩
    obtain ⟨i, hi, e2⟩ := List.getElem_of_mem ht
    rw [List.length_take] at hi
    have ti : t = gt l i := by rw [gt_get l (by omega), ← e2, List.getElem_take]
    have := nu_inj h (ti ▸ okAt_C (hok i (by omega))) hc e
    rw [← this]; exact ht
  · intro hm; exact ⟨_, hm, rfl⟩
theorem good_ev {W D : Int} (h : LK W D) (l : List ByteArray) (hs : ∀ s ∈ l, s.size ≤ 140737488351232) : Ev (fun k => spec_orGood.f k W D l) (decide (l.length ≤ 1000) && allFrom W D l 0) := by
  have cb := cnt_bd h
  have hW := LK.w h
  unfold spec_orGood.f
  by_cases hl : l.length ≤ 1000
  · rw [decide_eq_true hl, Bool.true_and]
    simp only [if_neg (show ¬ (l.length : Int) > 1000 by omega)]
    refine Ev.bind (whCount_ev h) ?_
    simp only [if_pos (show 0 ≤ cnt W D by omega), if_pos (show (cnt W D).toNat ≤ 281474976710656 by omega)]
    have key : ∀ m j : Nat, l.length - j = m → j ≤ l.length → (∀ i, i < j → okAt W D l i = true) → Ev (fun k => spec_orGood.l0 k l (tabl ((l.take j).map (nu D)) (cnt W D).toNat) l (l.length : Int) (j : Int) W D) (allFrom W D l j) := by
      intro m
      induction m with
      | zero =>
        intro j hm hj hok
        obtain rfl : j = l.length := by omega
        refine Ev.succ ?_
        simp only [spec_orGood.l0, if_neg (show ¬ ((l.length : Nat) : Int) < (l.length : Int) by omega), all_end]
        exact Ev.now _
      | succ m ih =>
        intro j hm hj hok
        have hj' : j < l.length := by omega
        have tl := tabl_len ((l.take j).map (nu D)) (cnt W D).toNat
        have hss := hs _ (gt_mem l hj')
        rw [all_step W D l hj']
        refine Ev.succ ?_
        simp only [spec_orGood.l0, tl, if_pos (show (j : Int) < (l.length : Int) by omega), if_pos (show (0 : Int) ≤ (j : Int) by omega), rd_gt, w64 (x := (j : Int) + 1) (by omega) (by omega)]
        refine Ev.bind (whCode_ev h.2.2 (gt l j) hss) ?_
        by_cases hc : isC W D (gt l j) = true
        · have z := isC_size hc
          have nb := nu_bd h hc
          have sn := seen_iff h hj' hok hc
          have nev : Ev (fun k => spec_whNumber.f k W D (gt l j)) (nu D (gt l j)) := whNumber_ev W h.2.2 (gt l j) (by omega) (isC_isT hc)
          simp only [hc, if_true]
          refine Ev.bind nev ?_
          have rg : rdOf false (tabl ((l.take j).map (nu D)) (cnt W D).toNat) (nu D (gt l j)) = hasS (l.take j) (gt l j) := by
            rw [← sn]
            have := tabl_get ((l.take j).map (nu D)) (cnt W D).toNat (n := (nu D (gt l j)).toNat) (by omega)
            unfold rdOf; exact this
          simp only [if_pos nb.1, if_pos (show nu D (gt l j) < (((cnt W D).toNat : Nat) : Int) by omega), rg]
          have st : (tabl ((l.take j).map (nu D)) (cnt W D).toNat).set (nu D (gt l j)).toNat true = tabl ((l.take (j + 1)).map (nu D)) (cnt W D).toNat := by
            rw [tabl_set _ _ _ nb.1 (by omega), List.take_succ_eq_append_getElem hj', List.map_append, gt_get l hj']; rfl
          unfold okAt
          rw [hc, Bool.true_and]
          by_cases hm2 : hasS (l.take j) (gt l j) = true
          · simp only [hm2, if_true, Bool.not_true, Bool.false_and]; exact Ev.now _
          · rw [Bool.not_eq_true] at hm2
            simp only [hm2, Bool.false_eq_true, if_false, Bool.not_false, Bool.true_and]
            by_cases j0 : j = 0
            · rw [decide_eq_true j0, Bool.true_or, Bool.true_and]
              simp only [if_neg (show ¬ (j : Int) > 0 by omega)]
              refine Ev.bind nev ?_
              simp only [if_pos nb.1, if_pos (show nu D (gt l j) < (((cnt W D).toNat : Nat) : Int) by omega), st]
              refine ih (j + 1) (by omega) (by omega) fun i hi => ?_
              by_cases q : i = j
              · subst q; unfold okAt; rw [hc, hm2, decide_eq_true j0]; rfl
              · exact hok i (by omega)
            · rw [decide_eq_false j0, Bool.false_or]
              have pc := okAt_C (hok (j - 1) (by omega))
              simp only [if_pos (show (j : Int) > 0 by omega), show (j : Int) - 1 = ((j - 1 : Nat) : Int) by omega, w64 (x := ((j - 1 : Nat) : Int)) (by omega) (by omega), if_pos (show (0 : Int) ≤ ((j - 1 : Nat) : Int) by omega), if_pos (show ((j - 1 : Nat) : Int) < (l.length : Int) by omega), rd_gt]
              refine Ev.bind (codes_ds h pc hc).2 ?_
              by_cases d1 : ds D (gt l (j - 1)) (gt l j) = 1
              · simp only [if_pos d1, decide_eq_true d1, Bool.true_and]
                refine Ev.bind nev ?_
                simp only [if_pos nb.1, if_pos (show nu D (gt l j) < (((cnt W D).toNat : Nat) : Int) by omega), st]
                refine ih (j + 1) (by omega) (by omega) fun i hi => ?_
                by_cases q : i = j
                · subst q; unfold okAt; rw [hc, hm2, decide_eq_true d1]; simp
                · exact hok i (by omega)
              · simp only [if_neg d1, decide_eq_false d1, Bool.false_and]; exact Ev.now _
        · rw [Bool.not_eq_true] at hc
          simp only [hc, Bool.false_eq_true, if_false]
          unfold okAt
          rw [hc, Bool.false_and, Bool.false_and]
          exact Ev.now _
    have e0 : List.replicate (cnt W D).toNat false = tabl (([] : List ByteArray).map (nu D)) (cnt W D).toNat := by
      unfold tabl
      apply List.ext_getElem
      · simp
      · intro i h1 h2; simp
    rw [e0]
    have := key l.length 0 (by omega) (by omega) (fun i hi => absurd hi (by omega))
    rw [List.take_zero] at this
    exact this
  · rw [decide_eq_false hl, Bool.false_and]
    simp only [if_pos (show (l.length : Int) > 1000 by omega)]
    exact Ev.now _
instance : Nonempty S66 := ⟨⟨0, 0⟩⟩
open Classical in
noncomputable def tn (W D : Int) (s t : ByteArray) : S66 := epsilon fun r => Ev (fun k => spec_orTurn.f k W D s t) (r.f0, r.f1) ∧ Ev (fun k => impl_Lock_between.f k W D s t) (r.f0, r.f1, true)
theorem tn_ev {W D : Int} (h : LK W D) {s t : ByteArray} (hs : isC W D s = true) (ht : isC W D t = true) (hd : ds D s t = 1) :
    Ev (fun k => spec_orTurn.f k W D s t) ((tn W D s t).f0, (tn W D s t).f1) ∧ Ev (fun k => impl_Lock_between.f k W D s t) ((tn W D s t).f0, (tn W D s t).f1, true) := by
  obtain ⟨l1, d1, e1⟩ := codeOf h hs
  obtain ⟨l2, d2, e2⟩ := codeOf h ht
  obtain ⟨i, e, h1, h2⟩ := both_turn h d1 d2 l1 l2 ((ds_nx h hs ht).mp hd)
  rw [e1, e2] at h1 h2
  exact Classical.epsilon_spec (p := fun r : S66 => Ev (fun k => spec_orTurn.f k W D s t) (r.f0, r.f1) ∧ Ev (fun k => impl_Lock_between.f k W D s t) (r.f0, r.f1, true)) ⟨⟨i, e⟩, h1, h2⟩
theorem tn_no {W D : Int} (h : LK W D) {s t : ByteArray} (hs : isC W D s = true) (ht : isC W D t = true) (hd : ds D s t ≠ 1) : Ev (fun k => impl_Lock_between.f k W D s t) (0, 0, false) := by
  obtain ⟨l1, d1, e1⟩ := codeOf h hs
  obtain ⟨l2, d2, e2⟩ := codeOf h ht
  have := between_no h d1 d2 l1 l2 (fun q => hd ((ds_nx h hs ht).mpr q))
  rwa [e1, e2] at this
noncomputable def tns (W D : Int) (l : List ByteArray) (n : Nat) : List S66 := (List.range n).map fun i => tn W D (gt l i) (gt l (i + 1))
theorem tns_succ (W D : Int) (l : List ByteArray) (n : Nat) : tns W D l (n + 1) = tns W D l n ++ [tn W D (gt l n) (gt l (n + 1))] := by unfold tns; rw [List.range_succ, List.map_append]; rfl
theorem tns_len (W D : Int) (l : List ByteArray) (n : Nat) : (tns W D l n).length = n := by simp [tns]
open Classical in
noncomputable def ordR (W D : Int) (l : List ByteArray) (j : Nat) : List S66 × Bool := if allFrom W D l j = true ∧ l.length ≤ 1000 then (tns W D l (l.length - 1), true) else ([], false)
theorem turnsOf_ev {W D : Int} (h : LK W D) (l : List ByteArray) (hll : l.length ≤ 100000000) (hs : ∀ s ∈ l, s.size ≤ 140737488351232) : Ev (fun k => impl_Lock_orderTurns.f k W D l) (ordR W D l 0) := by
  have hW := LK.w h
  unfold impl_Lock_orderTurns.f
  have key : ∀ m j : Nat, l.length - j = m → j ≤ l.length → j ≤ 1000 → (∀ i, i < j → okAt W D l i = true) → Ev (fun k => impl_Lock_orderTurns.l0 k l (tns W D l (j - 1)) (l.take j) l (l.length : Int) (j : Int) W D) (ordR W D l j) := by
    intro m
    induction m with
    | zero =>
      intro j hm hj hj1 hok
      obtain rfl : j = l.length := by omega
      refine Ev.succ ?_
      simp only [impl_Lock_orderTurns.l0, if_neg (show ¬ ((l.length : Nat) : Int) < (l.length : Int) by omega)]
      unfold ordR
      rw [if_pos ⟨all_end W D l, hj1⟩]
      exact Ev.now _
    | succ m ih =>
      intro j hm hj hj1 hok
      have hj' : j < l.length := by omega
      have hss := hs _ (gt_mem l hj')
      have lt : (l.take j).length = j := by rw [List.length_take]; omega
      have tl := tns_len W D l (j - 1)
      refine Ev.succ ?_
      simp only [impl_Lock_orderTurns.l0, if_pos (show (j : Int) < (l.length : Int) by omega), if_pos (show (0 : Int) ≤ (j : Int) by omega), rd_gt]
      refine Ev.bind (isCode_ev h.2.2 (gt l j) hss) ?_
      have no : ∀ b, b = true → ¬ (allFrom W D l j = true ∧ l.length ≤ 1000) → Ev (fun k => impl_Lock_orderTurns.j1 k l (tns W D l (j - 1)) (l.take j) (j : Int) (gt l j) l (l.length : Int) (j : Int) b W D) (ordR W D l j) := by
        intro b hb hn
        subst hb
        refine Ev.succ ?_
        simp only [impl_Lock_orderTurns.j1, if_true]
        unfold ordR; rw [if_neg hn]; exact Ev.now _
      by_cases hc : isC W D (gt l j) = true
      · simp only [hc, if_true]
        unfold impl_Lock_orderTurns.look
        simp only [if_pos (show (gt l j).size ≤ 9223372036854775807 by omega), Option.bind_some]
        have hh : impl_Lock_orderTurns.has (l.take j) (gt l j) = hasS (l.take j) (gt l j) := rfl
        rw [hh]
        by_cases hm2 : hasS (l.take j) (gt l j) = true
        · simp only [hm2, if_true]
          refine no _ rfl fun q => ?_
          have := q.1
          rw [all_step W D l hj'] at this
          unfold okAt at this
          rw [hm2] at this
          simp at this
        · rw [Bool.not_eq_true] at hm2
          simp only [hm2, Bool.false_eq_true, if_false]
          by_cases hb : (j : Int) ≥ 1000
          · simp only [decide_eq_true hb]
            exact no _ rfl fun q => by have := q.2; omega
          · simp only [decide_eq_false hb]
            refine Ev.succ ?_
            simp only [impl_Lock_orderTurns.j1, Bool.false_eq_true, if_false]
            unfold impl_Lock_orderTurns.put
            have tk : l.take j ++ [gt l j] = l.take (j + 1) := by rw [List.take_succ_eq_append_getElem hj', gt_get l hj']
            simp only [if_pos (show (gt l j).size ≤ 9223372036854775807 by omega), lt, if_pos (show j < 9223372036854775807 by omega), Option.bind_some, tk]
            have same : okAt W D l j = true → ordR W D l j = ordR W D l (j + 1) := fun q => by unfold ordR; rw [all_step W D l hj', q, Bool.true_and]
            by_cases j0 : j = 0
            · have ok0 : okAt W D l j = true := by unfold okAt; rw [hc, hm2, decide_eq_true j0]; rfl
              simp only [if_pos (show (j : Int) = 0 by omega), w64 (x := (j : Int) + 1) (by omega) (by omega)]
              rw [same ok0]
              have := ih (j + 1) (by omega) (by omega) (by omega) (fun i hi => by
                by_cases q : i = j
                · rw [q]; exact ok0
                · exact hok i (by omega))
              rw [show j + 1 - 1 = j - 1 by omega] at this
              exact this
            · have pc := okAt_C (hok (j - 1) (by omega))
              simp only [if_neg (show ¬ (j : Int) = 0 by omega), show (j : Int) - 1 = ((j - 1 : Nat) : Int) by omega, w64 (x := ((j - 1 : Nat) : Int)) (by omega) (by omega), if_pos (show (0 : Int) ≤ ((j - 1 : Nat) : Int) by omega), if_pos (show ((j - 1 : Nat) : Int) < (l.length : Int) by omega), rd_gt]
              by_cases d1 : ds D (gt l (j - 1)) (gt l j) = 1
              · have ok1 : okAt W D l j = true := by unfold okAt; rw [hc, hm2, decide_eq_true d1]; simp
                refine Ev.bind (tn_ev h pc hc d1).2 ?_
                simp only [if_true, tl, if_pos (show j - 1 < 8796093022208 by omega), w64 (x := (j : Int) + 1) (by omega) (by omega)]
                rw [same ok1]
                have := ih (j + 1) (by omega) (by omega) (by omega) (fun i hi => by
                  by_cases q : i = j
                  · rw [q]; exact ok1
                  · exact hok i (by omega))
                rw [show j + 1 - 1 = (j - 1) + 1 by omega, tns_succ, show j - 1 + 1 = j by omega] at this
                exact this
              · refine Ev.bind (tn_no h pc hc d1) ?_
                simp only [Bool.false_eq_true, if_false]
                have : ordR W D l j = ([], false) := by
                  unfold ordR
                  rw [if_neg]
                  intro q
                  have := q.1
                  rw [all_step W D l hj'] at this
                  unfold okAt at this
                  rw [decide_eq_false j0, decide_eq_false d1] at this
                  simp at this
                rw [this]; exact Ev.now _
      · rw [Bool.not_eq_true] at hc
        simp only [hc, Bool.false_eq_true, if_false]
        refine no _ rfl fun q => ?_
        have := q.1
        rw [all_step W D l hj'] at this
        unfold okAt at this
        rw [hc] at this
        simp at this
  have := key l.length 0 (by omega) (by omega) (by omega) (fun i hi => absurd hi (by omega))
  simpa [tns] using this
theorem ordR_ok (W D : Int) (l : List ByteArray) : (ordR W D l 0).2 = (decide (l.length ≤ 1000) && allFrom W D l 0) := by
  unfold ordR
  by_cases h : allFrom W D l 0 = true ∧ l.length ≤ 1000
  · rw [if_pos h, h.1, decide_eq_true h.2]; rfl
  · rw [if_neg h]
    by_cases q : l.length ≤ 1000
    · have : allFrom W D l 0 = false := by rw [← Bool.not_eq_true]; exact fun r => h ⟨r, q⟩
      rw [this]; simp
    · rw [decide_eq_false q]; rfl
theorem sz_ev (l : List ByteArray) (hl : l.length ≤ 8796093022208) (hs : ∀ s ∈ l, s.size ≤ 9223372036854775807) :
    ∃ r, Ev (fun k => laws_szStringS.f k l 1048576) r ∧ (0 ≤ r → l.length ≤ 1048576 ∧ ∀ s ∈ l, s.size ≤ 1048576) := by
  unfold laws_szStringS.f
  rw [w64 (x := 1048576 - (l.length : Int)) (by omega) (by omega)]
  by_cases h0 : 1048576 - (l.length : Int) < 0
  · refine ⟨-1, ?_, by omega⟩
    simp only [if_pos h0]; exact Ev.now _
  · simp only [if_neg h0]
    have key : ∀ m j : Nat, l.length - j = m → j ≤ l.length → ∀ x : Int, 0 ≤ x → x ≤ 1048576 → (∀ s ∈ l.take j, s.size ≤ 1048576) → ∃ r, Ev (fun k => laws_szStringS.l0 k l x (j : Int)) r ∧ (0 ≤ r → ∀ s ∈ l, s.size ≤ 1048576) := by
      intro m
      induction m with
      | zero =>
        intro j hm hj x hx hx2 ht
        obtain rfl : j = l.length := by omega
        refine ⟨x, Ev.succ ?_, fun _ => by rw [List.take_of_length_le (Nat.le_refl _)] at ht; exact ht⟩
        simp only [laws_szStringS.l0, if_neg (show ¬ ((l.length : Nat) : Int) < (l.length : Int) by omega)]
        exact Ev.now _
      | succ m ih =>
        intro j hm hj x hx hx2 ht
        have hj' : j < l.length := by omega
        have hz := hs _ (gt_mem l hj')
        have ex : wrap64 (x - ((gt l j).size : Int)) = x - ((gt l j).size : Int) := w64 (by omega) (by omega)
        by_cases hn : x - ((gt l j).size : Int) < 0
        · refine ⟨-1, Ev.succ ?_, by omega⟩
          simp only [laws_szStringS.l0, if_pos (show (j : Int) < (l.length : Int) by omega), if_pos (show (0 : Int) ≤ (j : Int) by omega), rd_gt, ex, if_pos hn]
          exact Ev.now _
        · obtain ⟨r, h1, h2⟩ := ih (j + 1) (by omega) (by omega) (x - ((gt l j).size : Int)) (by omega) (by omega) (fun s hs' => by
            rw [List.take_succ_eq_append_getElem hj', List.mem_append, List.mem_singleton] at hs'
            rcases hs' with q | q
            · exact ht s q
            · rw [q, ← gt_get l hj']; omega)
          refine ⟨r, Ev.succ ?_, h2⟩
          simp only [laws_szStringS.l0, if_pos (show (j : Int) < (l.length : Int) by omega), if_pos (show (0 : Int) ≤ (j : Int) by omega), rd_gt, ex, if_neg hn, w64 (x := (j : Int) + 1) (by omega) (by omega)]
          exact h1
    obtain ⟨r, h1, h2⟩ := key l.length 0 (by omega) (by omega) (1048576 - (l.length : Int)) (by omega) (by omega) (by simp)
    exact ⟨r, h1, fun q => ⟨by omega, h2 q⟩⟩
theorem toS_ev (l : List ByteArray) (hl : l.length ≤ 8796093022208) : Ev (fun k => laws_toStringS.f k l) l := by
  unfold laws_toStringS.f
  simp only [if_pos (show 0 ≤ (l.length : Int) by omega), Int.toNat_natCast, if_pos (show l.length ≤ 17592186044416 by omega)]
  refine ev_loop (g := fun j k => laws_toStringS.l0 k l (l.take j ++ List.replicate (l.length - j) (⟨#[]⟩ : ByteArray)) (j : Int)) l.length ?_ ?_
  · intro j hj ih
    refine Ev.succ ?_
    have e : (l.take j ++ List.replicate (l.length - j) (⟨#[]⟩ : ByteArray)).length = l.length := by simp; omega
    simp only [laws_toStringS.l0, if_pos (show (j : Int) < (l.length : Int) by omega), if_pos (show (0 : Int) ≤ (j : Int) by omega), e, rd_gt, Int.toNat_natCast, w64 (x := (j : Int) + 1) (by omega) (by omega)]
    have st : (l.take j ++ List.replicate (l.length - j) (⟨#[]⟩ : ByteArray)).set j (gt l j) = l.take (j + 1) ++ List.replicate (l.length - (j + 1)) (⟨#[]⟩ : ByteArray) := by
      have lt : (l.take j).length = j := by rw [List.length_take]; omega
      rw [List.set_append_right _ _ (by omega), lt, Nat.sub_self, show l.length - j = (l.length - (j + 1)) + 1 by omega, List.replicate_succ, List.set_cons_zero, List.take_succ_eq_append_getElem hj, gt_get l hj, List.append_assoc]
      rfl
    rw [st]
    exact ih
  · refine Ev.succ ?_
    have e : (l.take l.length ++ List.replicate (l.length - l.length) (⟨#[]⟩ : ByteArray)) = l := by simp
    rw [e]
    simp only [laws_toStringS.l0, if_neg (show ¬ ((l.length : Nat) : Int) < (l.length : Int) by omega)]
    exact Ev.now _
end Go.Proofs.Ytihhiolflbieaaa.D2
namespace Go.Proofs.Ytihhiolflbieaaa.D4
open Go.RowKit Go.Proofs.Ytihhiolflbieaaa.P Go.Proofs.Ytihhiolflbieaaa.B Go.Proofs.Ytihhiolflbieaaa.C Go.Proofs.Ytihhiolflbieaaa.L Go.Proofs.Ytihhiolflbieaaa.A Go.Proofs.Ytihhiolflbieaaa.O Go.Proofs.Ytihhiolflbieaaa.O2 Go.Proofs.Ytihhiolflbieaaa.D1 Go.Proofs.Ytihhiolflbieaaa.D2 Go.Proofs.YtihhiolflbieaaaW.PrintWords Go.Proofs.YtihhiolflbieaaaW.PrintLast Go.Proofs.YtihhiolflbieaaaW.PrintMore
set_option linter.unusedVariables false
set_option linter.unusedSimpArgs false
def ordB (W D : Int) (l : List ByteArray) : Bool := decide (l.length ≤ 1000) && allFrom W D l 0
def wholeB (W D : Int) (l : List ByteArray) : Bool := ordB W D l && ((l.length : Int) == cnt W D)
theorem whole_ev {W D : Int} (h : LK W D) (l : List ByteArray) (hl : l.length ≤ 100000000) (hs : ∀ s ∈ l, s.size ≤ 140737488351232) : Ev (fun k => spec_orWhole.f k W D l) (wholeB W D l) ∧ Ev (fun k => impl_Lock_isWhole.f k W D l) (wholeB W D l) := by
  unfold spec_orWhole.f impl_Lock_isWhole.f wholeB
  constructor
  · refine Ev.bind (good_ev h l hs) ?_
    show Ev _ (ordB W D l && _)
    by_cases o : ordB W D l = true
    · rw [o, Bool.true_and]
      have o' : (decide (l.length ≤ 1000) && allFrom W D l 0) = true := o
      simp only [o', if_true]
      exact Ev.bind (whCount_ev h) (Ev.now _)
    · rw [Bool.not_eq_true] at o
      rw [o, Bool.false_and]
      have o' : (decide (l.length ≤ 1000) && allFrom W D l 0) = false := o
      simp only [o', Bool.false_eq_true, if_false]
      exact Ev.now _
  · refine Ev.bind (turnsOf_ev h l hl hs) ?_
    simp only [ordR_ok]
    show Ev _ (ordB W D l && _)
    by_cases o : ordB W D l = true
    · rw [o, Bool.true_and]
      have o' : (decide (l.length ≤ 1000) && allFrom W D l 0) = true := o
      simp only [o', if_true]
      exact Ev.bind (count_ev h) (Ev.now _)
    · rw [Bool.not_eq_true] at o
      rw [o, Bool.false_and]
      have o' : (decide (l.length ≤ 1000) && allFrom W D l 0) = false := o
      simp only [o', Bool.false_eq_true, if_false]
      exact Ev.now _
theorem isWhole_both (W D : Int) (l : List ByteArray) (hl : l.length ≤ 100000000) (hs : ∀ s ∈ l, s.size ≤ 140737488351232) : ∃ r, Ev (fun k => spec_IsWholeOrder.f k W D l) r ∧ Ev (fun k => impl_IsWholeOrder.f k W D l) r := by
  unfold spec_IsWholeOrder.f impl_IsWholeOrder.f
  by_cases h : LK W D
  · refine ⟨(wholeB W D l, true), ?_, ?_⟩
    · simp only [whGood_eq, Option.bind_some, decide_eq_true h, if_true]
      exact Ev.bind (whole_ev h l hl hs).1 (Ev.now _)
    · simp only [IsLock_eq, Option.bind_some, decide_eq_true h, if_true]
      exact Ev.bind (whole_ev h l hl hs).2 (Ev.now _)
  · refine ⟨(false, false), ?_, ?_⟩
    · simp only [whGood_eq, Option.bind_some, decide_eq_false h, Bool.false_eq_true, if_false]; exact Ev.now _
    · simp only [IsLock_eq, Option.bind_some, decide_eq_false h, Bool.false_eq_true, if_false]; exact Ev.now _
end Go.Proofs.Ytihhiolflbieaaa.D4
namespace Go.Proofs.Ytihhiolflbieaaa.Pure
open Go.RowKit Go.Proofs.Ytihhiolflbieaaa.P Go.Proofs.Ytihhiolflbieaaa.B Go.Proofs.Ytihhiolflbieaaa.C Go.Proofs.Ytihhiolflbieaaa.L Go.Proofs.Ytihhiolflbieaaa.A Go.Proofs.Ytihhiolflbieaaa.O Go.Proofs.Ytihhiolflbieaaa.O2 Go.Proofs.Ytihhiolflbieaaa.D1 Go.Proofs.Ytihhiolflbieaaa.D2 Go.Proofs.Ytihhiolflbieaaa.D4 Go.Proofs.YtihhiolflbieaaaW.PrintWords Go.Proofs.YtihhiolflbieaaaW.PrintLast Go.Proofs.YtihhiolflbieaaaW.PrintMore
set_option linter.unusedVariables false
set_option linter.unusedSimpArgs false
theorem FnExactIsWholeOrder : ∀ (a0_0 : Int) (a0_1 : Int) (l1 : List ByteArray), (-9223372036854775808 ≤ a0_0 ∧ a0_0 ≤ 9223372036854775807) → (-9223372036854775808 ≤ a0_1 ∧ a0_1 ≤ 9223372036854775807) → l1.length * 16 ≤ 140737488351232 → (∀ s ∈ l1, s.size ≤ 9223372036854775807) → ∃ k, laws_FnExactIsWholeOrder.f k a0_0 a0_1 l1 = some true := by
  intro W D l _ _ h1 h2
  refine ev_ex ?_
  unfold laws_FnExactIsWholeOrder.f laws_toLock.f
  obtain ⟨z, hz, hq⟩ := sz_ev l (by omega) h2
  refine Ev.bind hz ?_
  by_cases h0 : z < 0
  · simp only [if_pos h0]; exact Ev.now _
  simp only [if_neg h0, Option.bind_some]
  obtain ⟨hl, hs⟩ := hq (by omega)
  obtain ⟨r, q1, q2⟩ := isWhole_both W D l (by omega) (fun s m => by have := hs s m; omega)
  refine Ev.bind (toS_ev l (by omega)) (Ev.bind q1 (Ev.bind (toS_ev l (by omega)) (Ev.bind q2 ?_)))
  simp only [bne_self_eq_false, Bool.false_eq_true, if_false]
  refine Ev.succ ?_
  simp only [laws_FnExactIsWholeOrder.j0, Bool.false_eq_true, if_false]
  refine Ev.bind (toS_ev l (by omega)) (Ev.bind (eqStringS_ev l (by omega)) ?_)
  simp only [if_true]
  exact Ev.now _
end Go.Proofs.Ytihhiolflbieaaa.Pure
