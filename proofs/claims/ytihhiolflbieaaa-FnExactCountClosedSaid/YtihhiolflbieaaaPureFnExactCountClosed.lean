/- The plain statement behind the law FnExactCountClosed: whatever the input, the law's Lean function answers true. Conditions: none but the sizes that the row gives. -/
import Derived.Test.YtihhiolflbieaaaPx0
import Derived.Lib.IndexMore
import Derived.Test.YtihhiolflbieaaaPx2
import Derived.Test.YtihhiolflbieaaaPx5
import Derived.Test.YtihhiolflbieaaaPx32
import Derived.Test.YtihhiolflbieaaaPx38
import Derived.Test.YtihhiolflbieaaaPx62
import Derived.Test.YtihhiolflbieaaaPx71
import Derived.Test.YtihhiolflbieaaaPx133
import Derived.Test.YtihhiolflbieaaaPx136
import Derived.Test.YtihhiolflbieaaaPx142
namespace Go.Proofs.Ytihhiolflbieaaa.B
open Go.RowKit Go.Proofs.Ytihhiolflbieaaa.P Go.Proofs.YtihhiolflbieaaaW.PrintWords Go.Proofs.YtihhiolflbieaaaW.PrintLast Go.Proofs.YtihhiolflbieaaaW.PrintMore
set_option linter.unusedVariables false
set_option linter.unusedSimpArgs false
theorem w64 {x : Int} (h0 : -9223372036854775808 ≤ x) (h1 : x ≤ 9223372036854775807) : wrap64 x = x := by unfold wrap64; omega
theorem ev_loop {α : Type} {g : Nat → Nat → Option α} {r : α} (n : Nat) (step : ∀ j, j < n → Ev (g (j + 1)) r → Ev (g j) r) (fin : Ev (g n) r) : Ev (g 0) r := by
  have : ∀ d, d ≤ n → Ev (g (n - d)) r := by
    intro d
    induction d with
    | zero => intro _; exact fin
    | succ d ih =>
      intro hd
      have := step (n - (d + 1)) (by omega)
      rw [show n - (d + 1) + 1 = n - d by omega] at this
      exact this (ih (by omega))
  have := this n (Nat.le_refl n)
  rwa [Nat.sub_self] at this
/-- Behind the loop's rounds the answer may differ from round to round (an early return). -/
theorem ev_down {α : Type} {g : Nat → Nat → Option α} {R : Nat → α} (n : Nat) (step : ∀ j, j < n → Ev (g (j + 1)) (R (j + 1)) → Ev (g j) (R j)) (fin : Ev (g n) (R n)) : Ev (g 0) (R 0) := by
  have : ∀ d, d ≤ n → Ev (g (n - d)) (R (n - d)) := by
    intro d
    induction d with
    | zero => intro _; exact fin
    | succ d ih =>
      intro hd
      have := step (n - (d + 1)) (by omega)
      rw [show n - (d + 1) + 1 = n - d by omega] at this
      exact this (ih (by omega))
  have := this n (Nat.le_refl n)
  rwa [Nat.sub_self] at this
theorem ev_ex {g : Nat → Option Bool} (h : Ev g true) : ∃ k, g k = some true := h.rounds
def LK (W D : Int) : Prop := 1 ≤ W ∧ W ≤ 6 ∧ 2 ≤ D ∧ D ≤ 10
instance (W D : Int) : Decidable (LK W D) := by unfold LK; infer_instance
theorem for_good {p : Int → Int → Bool} (h : ((List.range 6).all fun i => (List.range 9).all fun j => p (i + 1) (j + 2)) = true) {W D : Int} (hg : LK W D) : p W D = true := by
  obtain ⟨h1, h2, h3, h4⟩ := hg
  rw [List.all_eq_true] at h
  have a := h (W.toNat - 1) (List.mem_range.mpr (by omega))
  rw [List.all_eq_true] at a
  have b := a (D.toNat - 2) (List.mem_range.mpr (by omega))
  rw [show ((W.toNat - 1 : Nat) : Int) + 1 = W by omega, show ((D.toNat - 2 : Nat) : Int) + 2 = D by omega] at b
  exact b
theorem l1In_eq (a b c : Int) : spec_l1In.f a b c = some (decide (b ≤ a ∧ a ≤ c)) := by
  unfold spec_l1In.f
  by_cases h : a ≥ b
  · rw [if_pos h]; congr 1; rw [decide_eq_decide]; omega
  · rw [if_neg h]; congr 1; symm; rw [decide_eq_false_iff_not]; omega
theorem within_eq (a b c : Int) : impl_within.f a b c = some (decide (b ≤ a ∧ a ≤ c)) := by
  unfold impl_within.f
  by_cases h : b ≤ a
  · rw [if_pos h]; congr 1; rw [decide_eq_decide]; omega
  · rw [if_neg h]; congr 1; symm; rw [decide_eq_false_iff_not]; omega
theorem whGood_eq (W D : Int) : spec_whGood.f W D = some (decide (LK W D)) := by
  unfold spec_whGood.f
  rw [l1In_eq, Option.bind_some, l1In_eq, Option.bind_some]
  by_cases h : 1 ≤ W ∧ W ≤ 6
  · rw [if_pos (decide_eq_true h)]; congr 1; rw [decide_eq_decide]; unfold LK; omega
  · rw [if_neg (by rw [decide_eq_false h]; decide)]; congr 1; symm; rw [decide_eq_false_iff_not]; unfold LK; omega
theorem IsLock_eq (W D : Int) : impl_IsLock.f W D = some (decide (LK W D)) := by
  unfold impl_IsLock.f
  rw [within_eq, Option.bind_some, within_eq, Option.bind_some]
  by_cases h : 1 ≤ W ∧ W ≤ 6
  · rw [if_pos (decide_eq_true h)]; congr 1; rw [decide_eq_decide]; unfold LK; omega
  · rw [if_neg (by rw [decide_eq_false h]; decide)]; congr 1; symm; rw [decide_eq_false_iff_not]; unfold LK; omega
def cnt (W D : Int) : Int := D ^ W.toNat
theorem cnt_bd {W D : Int} (h : LK W D) : 2 ≤ cnt W D ∧ cnt W D ≤ 1000000 := by
  have := for_good (p := fun W D => decide (2 ≤ cnt W D ∧ cnt W D ≤ 1000000)) (by decide +kernel) h
  exact of_decide_eq_true this
theorem whCount_ev {W D : Int} (h : LK W D) : Ev (fun k => spec_whCount.f k W D) (cnt W D) := by
  have := for_good (p := fun W D => decide (spec_whCount.f 8 W D = some (cnt W D))) (by decide +kernel) h
  exact Ev.of (fun k => spec_whCount.mono _ _ k) (of_decide_eq_true this)
theorem count_ev {W D : Int} (h : LK W D) : Ev (fun k => impl_Lock_count.f k W D) (cnt W D) := by
  have := for_good (p := fun W D => decide (impl_Lock_count.f 8 W D = some (cnt W D))) (by decide +kernel) h
  exact Ev.of (fun k => impl_Lock_count.mono _ _ k) (of_decide_eq_true this)
theorem isSmall_ev (W D m : Int) : Ev (fun k => impl_isSmall.f k W D m) (decide (LK W D ∧ cnt W D ≤ m)) := by
  unfold impl_isSmall.f
  refine Ev.congr (f := fun k => if decide (LK W D) = true then ((impl_Lock_count.f k W D).bind fun t => some (decide (t ≤ m))) else some false) (fun k => by rw [IsLock_eq, Option.bind_some]) ?_
  by_cases h : LK W D
  · refine Ev.congr (f := fun k => (impl_Lock_count.f k W D).bind fun t => some (decide (t ≤ m))) (fun k => by rw [if_pos (decide_eq_true h)]) ?_
    refine Ev.bind (count_ev h) ?_
    rw [show decide (LK W D ∧ cnt W D ≤ m) = decide (cnt W D ≤ m) by rw [decide_eq_decide]; simp [h]]
    exact Ev.now _
  · rw [show decide (LK W D ∧ cnt W D ≤ m) = false by rw [decide_eq_false_iff_not]; simp [h]]
    exact Ev.congr (f := fun _ => some false) (fun k => by rw [if_neg (by simp [h])]) (Ev.now _)
end Go.Proofs.Ytihhiolflbieaaa.B
namespace Go.Proofs.Ytihhiolflbieaaa.C
open Go.RowKit Go.Proofs.Ytihhiolflbieaaa.P Go.Proofs.Ytihhiolflbieaaa.B Go.Proofs.YtihhiolflbieaaaW.PrintWords Go.Proofs.YtihhiolflbieaaaW.PrintLast Go.Proofs.YtihhiolflbieaaaW.PrintMore
set_option linter.unusedVariables false
set_option linter.unusedSimpArgs false
theorem Ev.succ {α : Type} {g : Nat → Option α} {r : α} (h : Ev (fun k => g (k + 1)) r) : Ev g r := Ev.step (fun _ => rfl) h
theorem bt_nat (s : ByteArray) (j : Nat) (h : j < s.data.toList.length) : bt s (j : Int) = ((s.data.toList[j]).toNat : Int) := by
  have h' : j < s.size := by rw [Array.length_toList] at h; exact h
  unfold bt
  rw [dif_pos (by rw [Int.toNat_natCast]; exact h')]
  simp only [Int.toNat_natCast, Array.getElem_toList]
  rfl
theorem size_len (s : ByteArray) : s.size = s.data.toList.length := by rw [Array.length_toList]; rfl
def dg (D : Int) (b : UInt8) : Bool := decide (48 ≤ (b.toNat : Int) ∧ (b.toNat : Int) < 48 + D)
def isT (D : Int) (s : ByteArray) : Bool := s.data.toList.all (dg D)
def isC (W D : Int) (s : ByteArray) : Bool := decide ((s.size : Int) = W) && isT D s
theorem drop_all {α : Type} (p : α → Bool) (l : List α) (j : Nat) (h : j < l.length) : (l.drop j).all p = (p l[j] && (l.drop (j + 1)).all p) := by
  rw [List.drop_eq_getElem_cons h, List.all_cons]
theorem whCode_ev {W D : Int} (hD : 2 ≤ D ∧ D ≤ 10) (s : ByteArray) (hs : s.size ≤ 140737488351232) : Ev (fun k => spec_whCode.f k W D s) (isC W D s) := by
  unfold spec_whCode.f isC
  by_cases h : (s.size : Int) = W
  · simp only [if_pos h, decide_eq_true h, Bool.true_and]
    unfold isT
    refine ev_down (g := fun j k => spec_whCode.l0 k s (j : Int) W D) (R := fun j => (s.data.toList.drop j).all (dg D)) s.size ?_ ?_
    · intro j hj ih
      have hl : j < s.data.toList.length := by rw [← size_len]; exact hj
      have hb := bt_nat s j hl
      have hb2 : (s.data.toList[j]).toNat < 256 := UInt8.toNat_lt _
      refine Ev.succ ?_
      simp only [spec_whCode.l0, if_pos (show (j : Int) < (s.size : Int) by omega), if_pos (show (0 : Int) ≤ (j : Int) by omega), l1In_eq, Option.bind_some,
        w64 (x := bt s j) (by omega) (by omega), w64 (x := bt s j - 48) (by omega) (by omega), w64 (x := D - 1) (by omega) (by omega), w64 (x := (j : Int) + 1) (by omega) (by omega)]
      rw [drop_all _ _ _ hl]
      by_cases h : 0 ≤ bt s j - 48 ∧ bt s j - 48 ≤ D - 1
      · have e : dg D s.data.toList[j] = true := by unfold dg; exact decide_eq_true (by omega)
        simp only [decide_eq_true h, if_true, e, Bool.true_and]
        exact ih
      · have e : dg D s.data.toList[j] = false := by unfold dg; exact decide_eq_false (by omega)
        simp only [decide_eq_false h, e, Bool.false_and, Bool.false_eq_true, if_false]
        exact Ev.now _
    · refine Ev.succ ?_
      simp only [spec_whCode.l0, if_neg (show ¬ ((s.size : Nat) : Int) < (s.size : Int) by omega)]
      rw [List.drop_of_length_le (by rw [← size_len]; exact Nat.le_refl _)]
      exact Ev.now _
  · simp only [if_neg h, decide_eq_false h, Bool.false_and]
    exact Ev.now _
theorem whAsked_ev (W D : Int) (s : ByteArray) (hs : s.size ≤ 140737488351232) : Ev (fun k => spec_whAsked.f k W D s) (decide (LK W D) && isC W D s) := by
  unfold spec_whAsked.f
  simp only [whGood_eq, Option.bind_some]
  by_cases h : LK W D
  · simp only [decide_eq_true h, if_true, Bool.true_and]
    exact Ev.bind (whCode_ev h.2.2 s hs) (Ev.now _)
  · simp only [decide_eq_false h, Bool.false_eq_true, if_false, Bool.false_and]
    exact Ev.now _
def digs (s : ByteArray) : List Int := s.data.toList.map fun b => ((b.toNat : Int) - 48) % 256
def txt (d : List Int) : ByteArray := strOfNums (d.map fun n => (48 + n) % 256)
/-- Digits of a lock. -/
def IsD (D : Int) (d : List Int) : Prop := ∀ x ∈ d, 0 ≤ x ∧ x < D
theorem digs_len (s : ByteArray) : (digs s).length = s.size := by unfold digs; rw [List.length_map, size_len]
theorem digs_get (s : ByteArray) (j : Nat) (h : j < (digs s).length) : (digs s)[j] = (bt s j - 48) % 256 := by
  unfold digs at h ⊢
  rw [List.length_map] at h
  rw [List.getElem_map, bt_nat s j h]
theorem rd_get (l : List Int) (j : Nat) (h : j < l.length) : rd l (j : Int) = l[j] := by
  unfold rd; rw [Int.toNat_natCast, List.getD_eq_getElem?_getD, List.getElem?_eq_getElem h]; rfl
theorem digs_isD {W D : Int} (hD : 2 ≤ D ∧ D ≤ 10) {s : ByteArray} (h : isT D s = true) : IsD D (digs s) := by
  intro x hx
  unfold isT at h
  rw [List.all_eq_true] at h
  obtain ⟨b, hb, rfl⟩ := List.mem_map.mp hx
  have := of_decide_eq_true (h b hb)
  omega
theorem isC_size {W D : Int} {s : ByteArray} (h : isC W D s = true) : (s.size : Int) = W := by
  unfold isC at h; rw [Bool.and_eq_true] at h; exact of_decide_eq_true h.1
theorem isC_isT {W D : Int} {s : ByteArray} (h : isC W D s = true) : isT D s = true := by
  unfold isC at h; rw [Bool.and_eq_true] at h; exact h.2
theorem txt_digs {D : Int} (hD : 2 ≤ D ∧ D ≤ 10) {s : ByteArray} (h : isT D s = true) : txt (digs s) = s := by
  unfold txt digs strOfNums
  rw [List.map_map, List.map_map]
  have : s.data.toList.map (((fun n : Int => UInt8.ofNat n.toNat) ∘ (fun n : Int => (48 + n) % 256)) ∘ fun b : UInt8 => ((b.toNat : Int) - 48) % 256) = s.data.toList := by
    conv => rhs; rw [← List.map_id s.data.toList]
    refine List.map_congr_left fun b hb => ?_
    unfold isT at h
    rw [List.all_eq_true] at h
    have := of_decide_eq_true (h b hb)
    simp only [Function.comp, id]
    rw [show (48 + ((b.toNat : Int) - 48) % 256) % 256 = (b.toNat : Int) by omega, Int.toNat_natCast, UInt8.ofNat_toNat]
  rw [this]
theorem digs_txt {d : List Int} (h : IsD 10 d) : digs (txt d) = d := by
  unfold txt digs strOfNums
  simp only
  rw [List.map_map, List.map_map]
  conv => rhs; rw [← List.map_id d]
  refine List.map_congr_left fun x hx => ?_
  have := h x hx
  simp only [Function.comp, id]
  rw [UInt8.toNat_ofNat']
  omega
theorem txt_size (d : List Int) : (txt d).size = d.length := by unfold txt; rw [strOfNums_size, List.length_map]
theorem txt_isT {D : Int} (hD : 2 ≤ D ∧ D ≤ 10) {d : List Int} (h : IsD D d) : isT D (txt d) = true := by
  unfold isT txt strOfNums
  simp only
  rw [List.all_eq_true]
  intro b hb
  rw [List.map_map] at hb
  obtain ⟨x, hx, rfl⟩ := List.mem_map.mp hb
  have := h x hx
  unfold dg
  refine decide_eq_true ?_
  simp only [Function.comp]
  rw [UInt8.toNat_ofNat']
  omega
theorem IsD.mono {D D' : Int} {d : List Int} (h : IsD D d) (hh : D ≤ D') : IsD D' d := fun x hx => ⟨(h x hx).1, by have := (h x hx).2; omega⟩
theorem whDigits_ev (s : ByteArray) (hs : s.size ≤ 10000000000) : Ev (fun k => spec_whDigits.f k s) (digs s) := by
  unfold spec_whDigits.f
  refine ev_loop (g := fun j k => spec_whDigits.l0 k s ((digs s).take j) (j : Int)) s.size ?_ ?_
  · intro j hj ih
    have hl : j < (digs s).length := by rw [digs_len]; exact hj
    refine Ev.succ ?_
    have ht : ((digs s).take j).length = j := by rw [List.length_take]; omega
    simp only [spec_whDigits.l0, if_pos (show (j : Int) < (s.size : Int) by omega), if_pos (show (0 : Int) ≤ (j : Int) by omega), ht, if_pos (show j < 17592186044416 by omega), w64 (x := (j : Int) + 1) (by omega) (by omega)]
    rw [List.take_succ_eq_append_getElem hl, digs_get s j hl] at ih
    exact ih
  · refine Ev.succ ?_
    simp only [spec_whDigits.l0, if_neg (show ¬ ((s.size : Nat) : Int) < (s.size : Int) by omega)]
    rw [List.take_of_length_le (by rw [digs_len]; exact Nat.le_refl _)]
    exact Ev.now _
theorem digits_ev (s : ByteArray) (hs : s.size ≤ 10000000000) : Ev (fun k => impl_digits.f k s) (digs s) := by
  unfold impl_digits.f
  refine ev_loop (g := fun j k => impl_digits.l0 k s ((digs s).take j) (s.size : Int) (j : Int)) s.size ?_ ?_
  · intro j hj ih
    have hl : j < (digs s).length := by rw [digs_len]; exact hj
    refine Ev.succ ?_
    have ht : ((digs s).take j).length = j := by rw [List.length_take]; omega
    simp only [impl_digits.l0, if_pos (show (j : Int) < (s.size : Int) by omega), if_pos (show (0 : Int) ≤ (j : Int) by omega), ht, if_pos (show j < 17592186044416 by omega), w64 (x := (j : Int) + 1) (by omega) (by omega)]
    rw [List.take_succ_eq_append_getElem hl, digs_get s j hl] at ih
    exact ih
  · refine Ev.succ ?_
    simp only [impl_digits.l0, if_neg (show ¬ ((s.size : Nat) : Int) < (s.size : Int) by omega)]
    rw [List.take_of_length_le (by rw [digs_len]; exact Nat.le_refl _)]
    exact Ev.now _
theorem strOfNums_append (a b : List Int) : strOfNums a ++ strOfNums b = strOfNums (a ++ b) := by
  apply ByteArray.ext
  rw [ByteArray.data_append]
  unfold strOfNums
  simp only [List.map_append, List.append_toArray]
theorem txt_append (a b : List Int) : txt a ++ txt b = txt (a ++ b) := by unfold txt; rw [strOfNums_append, List.map_append]
theorem text_ev (l : List Int) (hl : l.length ≤ 10000000000) (h : IsD 10 l) : Ev (fun k => impl_text.f k l) (txt l) := by
  unfold impl_text.f
  refine ev_loop (g := fun j k => impl_text.l0 k ((l.map fun n => (48 + n) % 256).take j) l (l.length : Int) (j : Int)) l.length ?_ ?_
  · intro j hj ih
    have hm : j < (l.map fun n => (48 + n) % 256).length := by rw [List.length_map]; exact hj
    have hx := h _ (List.getElem_mem hj)
    have hr := rd_get l j hj
    refine Ev.succ ?_
    have ht : ((l.map fun n => (48 + n) % 256).take j).length = j := by rw [List.length_take]; omega
    simp only [impl_text.l0, if_pos (show (j : Int) < (l.length : Int) by omega), if_pos (show (0 : Int) ≤ (j : Int) by omega), ht, if_pos (show j < 140737488355328 by omega), w64 (x := (j : Int) + 1) (by omega) (by omega), hr, w64 (x := 48 + l[j]) (by omega) (by omega)]
    rw [List.take_succ_eq_append_getElem hm, List.getElem_map] at ih
    exact ih
  · refine Ev.succ ?_
    simp only [impl_text.l0, if_neg (show ¬ ((l.length : Nat) : Int) < (l.length : Int) by omega)]
    rw [List.take_of_length_le (by rw [List.length_map]; exact Nat.le_refl _)]
    exact Ev.now _
theorem l1Num_ev {n : Int} (h : 0 ≤ n ∧ n < 10) : Ev (fun k => spec_l1Num.f k n) (txt [n]) := by
  refine Ev.succ ?_
  simp only [spec_l1Num.f, if_pos h.2, w64 (x := 48 + n) (by omega) (by omega)]
  exact Ev.now _
theorem whText_ev (l : List Int) (hl : l.length ≤ 10000000000) (h : IsD 10 l) : Ev (fun k => spec_whText.f k l) (txt l) := by
  unfold spec_whText.f
  refine ev_loop (g := fun j k => spec_whText.l0 k (txt (l.take j)) l (l.length : Int) (j : Int)) l.length ?_ ?_
  · intro j hj ih
    have hx := h _ (List.getElem_mem hj)
    have hr := rd_get l j hj
    refine Ev.succ ?_
    have ht : (l.take j).length = j := by rw [List.length_take]; omega
    simp only [spec_whText.l0, if_pos (show (j : Int) < (l.length : Int) by omega), if_pos (show (0 : Int) ≤ (j : Int) by omega), w64 (x := (j : Int) + 1) (by omega) (by omega), hr]
    refine Ev.bind (l1Num_ev hx) ?_
    simp only [txt_size, ht, List.length_singleton, if_pos (show j + 1 ≤ 9223372036854775807 by omega), txt_append]
    rw [List.take_succ_eq_append_getElem hj] at ih
    exact ih
  · refine Ev.succ ?_
    simp only [spec_whText.l0, if_neg (show ¬ ((l.length : Nat) : Int) < (l.length : Int) by omega)]
    rw [List.take_of_length_le (Nat.le_refl _)]
    exact Ev.now _
end Go.Proofs.Ytihhiolflbieaaa.C
namespace Go.Proofs.Ytihhiolflbieaaa.L
open Go.Proofs.Ytihhiolflbieaaa.C
set_option linter.unusedVariables false
set_option linter.unusedSimpArgs false
theorem pw_pos {D : Int} (h : 0 < D) : ∀ n : Nat, 0 < D ^ n
  | 0 => by simp
  | n + 1 => by rw [Int.pow_succ]; exact Int.mul_pos (pw_pos h n) h
theorem IsD.cons {D x : Int} {xs : List Int} (h : IsD D (x :: xs)) : (0 ≤ x ∧ x < D) ∧ IsD D xs := ⟨h x (List.mem_cons_self ..), fun y hy => h y (List.mem_cons_of_mem _ hy)⟩
theorem IsD.mk {D x : Int} {xs : List Int} (h : 0 ≤ x ∧ x < D) (hs : IsD D xs) : IsD D (x :: xs) := by
  intro y hy
  rcases List.mem_cons.mp hy with rfl | hy
  · exact h
  · exact hs y hy
theorem IsD.nil {D : Int} : IsD D [] := fun y hy => by cases hy
def cod (D : Int) : Nat → Int → List Int
  | 0, _ => []
  | j + 1, n => (n / D ^ j % D) :: cod D j n
theorem cod_len (D : Int) : ∀ j n, (cod D j n).length = j
  | 0, _ => rfl
  | j + 1, n => by simp [cod, cod_len D j n]
theorem cod_isD {D : Int} (hD : 0 < D) : ∀ j n, IsD D (cod D j n)
  | 0, _ => IsD.nil
  | j + 1, n => IsD.mk ⟨Int.emod_nonneg _ (by omega), Int.emod_lt_of_pos _ hD⟩ (cod_isD hD j n)
/-- b is a with one digit turned by 1 or -1. -/
def Nx (D : Int) : List Int → List Int → Prop
  | x :: xs, y :: ys => (x = y ∧ Nx D xs ys) ∨ (xs = ys ∧ x ≠ y ∧ (y = (x + 1) % D ∨ y = (x - 1) % D))
  | _, _ => False
theorem Nx.symm {D : Int} : ∀ {a b : List Int}, IsD D a → IsD D b → Nx D a b → Nx D b a
  | [], [], _, _, h => h
  | [], _ :: _, _, _, h => h
  | _ :: _, [], _, _, h => h
  | x :: xs, y :: ys, ha, hb, h => by
    obtain ⟨⟨a0, a1⟩, ha'⟩ := IsD.cons ha
    obtain ⟨⟨b0, b1⟩, hb'⟩ := IsD.cons hb
    rcases h with ⟨e, h⟩ | ⟨rfl, hne, h⟩
    · exact .inl ⟨e.symm, Nx.symm ha' hb' h⟩
    · refine .inr ⟨rfl, fun e => hne e.symm, ?_⟩
      rcases h with h | h
      · right; rw [h, Int.emod_sub_emod, show x + 1 - 1 = x by omega, Int.emod_eq_of_lt a0 a1]
      · left; rw [h, Int.emod_add_emod, show x - 1 + 1 = x by omega, Int.emod_eq_of_lt a0 a1]
/-- Around: the code with the next number has, in the round order, one digit turned by 1. -/
def N1 (D : Int) : List Int → List Int → Prop
  | x :: xs, y :: ys => (x = y ∧ N1 D xs ys) ∨ (xs = ys ∧ y = (x + 1) % D)
  | _, _ => False
theorem N1.nx {D : Int} (hD : 1 < D) : ∀ {a b : List Int}, IsD D a → N1 D a b → Nx D a b
  | [], [], _, h => h
  | [], _ :: _, _, h => h
  | _ :: _, [], _, h => h
  | x :: xs, y :: ys, ha, h => by
    obtain ⟨⟨a0, a1⟩, ha⟩ := IsD.cons ha
    rcases h with ⟨rfl, h⟩ | ⟨rfl, h⟩
    · exact .inl ⟨rfl, N1.nx hD ha h⟩
    · refine .inr ⟨rfl, ?_, .inl h⟩
      intro e
      by_cases hx : x + 1 < D
      · rw [Int.emod_eq_of_lt (by omega) hx] at h; omega
      · rw [show x + 1 = 0 + 1 * D by omega, Int.add_mul_emod_self_right, Int.zero_emod] at h; omega
end Go.Proofs.Ytihhiolflbieaaa.L
namespace Go.Proofs.Ytihhiolflbieaaa.A
open Go.RowKit Go.Proofs.Ytihhiolflbieaaa.P Go.Proofs.Ytihhiolflbieaaa.B Go.Proofs.Ytihhiolflbieaaa.C Go.Proofs.Ytihhiolflbieaaa.L Go.Proofs.YtihhiolflbieaaaW.PrintWords Go.Proofs.YtihhiolflbieaaaW.PrintLast Go.Proofs.YtihhiolflbieaaaW.PrintMore
set_option linter.unusedVariables false
set_option linter.unusedSimpArgs false
theorem tm {a D : Int} (hD : 0 < D) : Int.tmod (Int.tmod a D + D) D = a % D ∧ 0 < Int.tmod a D + D ∧ Int.tmod a D + D < 2 * D := by
  have key : ∃ t q, Int.tmod a D = t ∧ -D < t ∧ t < D ∧ a = t + q * D := by
    by_cases h : 0 ≤ a
    · refine ⟨a % D, a / D, Int.tmod_eq_emod_of_nonneg h, ?_, Int.emod_lt_of_pos _ hD, ?_⟩
      · have := Int.emod_nonneg a (b := D) (by omega); omega
      · rw [Int.mul_comm, Int.emod_add_mul_ediv]
    · refine ⟨-((-a) % D), -((-a) / D), ?_, ?_, ?_, ?_⟩
      · have e := Int.neg_tmod (a := -a) (b := D)
        rw [Int.neg_neg] at e
        rw [e, Int.tmod_eq_emod_of_nonneg (by omega)]
      · have := Int.emod_lt_of_pos (-a) hD; omega
      · have := Int.emod_nonneg (-a) (b := D) (by omega); omega
      · have := Int.emod_add_mul_ediv (-a) D
        rw [Int.neg_mul, Int.mul_comm]; omega
  obtain ⟨t, q, ht, h1, h2, ha⟩ := key
  refine ⟨?_, by omega, by omega⟩
  rw [ht, Int.tmod_eq_emod_of_nonneg (by omega), Int.add_emod_right, ha, Int.add_mul_emod_self_right]
theorem around_eq {a D : Int} (hD : 1 ≤ D ∧ D ≤ 1000) : impl_around.f a D = some (a % D) := by
  unfold impl_around.f
  obtain ⟨h1, h2, h3⟩ := tm (a := a) (show 0 < D by omega)
  rw [if_neg (by omega), w64 (by omega) (by omega), h1]
theorem l1Mod_eq {a D : Int} (hD : 1 ≤ D ∧ D ≤ 1000) : spec_l1Mod.f a D = some (a % D) := by
  unfold spec_l1Mod.f
  obtain ⟨h1, h2, h3⟩ := tm (a := a) (show 0 < D by omega)
  rw [if_neg (by omega), w64 (by omega) (by omega), h1]
theorem IsD.take {D : Int} {d : List Int} (h : IsD D d) (j : Nat) : IsD D (d.take j) := fun x hx => h x (List.mem_of_mem_take hx)
theorem IsD.drop {D : Int} {d : List Int} (h : IsD D d) (j : Nat) : IsD D (d.drop j) := fun x hx => h x (List.mem_of_mem_drop hx)
theorem IsD.get {D : Int} {d : List Int} (h : IsD D d) {j : Nat} (hj : j < d.length) : 0 ≤ d[j] ∧ d[j] < D := h _ (List.getElem_mem hj)
end Go.Proofs.Ytihhiolflbieaaa.A
namespace Go.Proofs.Ytihhiolflbieaaa.O
open Go.RowKit Go.Proofs.Ytihhiolflbieaaa.P Go.Proofs.Ytihhiolflbieaaa.B Go.Proofs.Ytihhiolflbieaaa.C Go.Proofs.Ytihhiolflbieaaa.L Go.Proofs.Ytihhiolflbieaaa.A Go.Proofs.YtihhiolflbieaaaW.PrintWords Go.Proofs.YtihhiolflbieaaaW.PrintLast Go.Proofs.YtihhiolflbieaaaW.PrintMore
set_option linter.unusedVariables false
set_option linter.unusedSimpArgs false
theorem LK.w {W D : Int} (h : LK W D) : (W.toNat : Int) = W ∧ W.toNat ≤ 6 ∧ 0 < W.toNat := by obtain ⟨h1, h2, _⟩ := h; omega
theorem LK.d {W D : Int} (h : LK W D) : 2 ≤ D ∧ D ≤ 10 := h.2.2
theorem rep_set (m : Nat) (c : List Int) (v : Int) : (List.replicate (m + 1) 0 ++ c).set m v = List.replicate m 0 ++ v :: c := by
  rw [List.replicate_succ', List.append_assoc, List.set_append_right _ _ (by simp), List.length_replicate, Nat.sub_self]
  rfl
theorem div_step {D : Int} (hD : 0 < D) (n : Int) (j : Nat) : n / D ^ j / D = n / D ^ (j + 1) := by
  rw [Int.pow_succ, Int.ediv_ediv_of_nonneg (Int.le_of_lt (pw_pos hD j))]
theorem div_bd {D : Int} (hD : 0 < D) {n : Int} (h0 : 0 ≤ n) (j : Nat) : 0 ≤ n / D ^ j ∧ n / D ^ j ≤ n := by
  have hp := pw_pos hD j
  exact ⟨Int.ediv_nonneg h0 (by omega), Int.ediv_le_self _ h0⟩
theorem whOf_ev {W D : Int} (h : LK W D) {n : Int} (h0 : 0 ≤ n) (h1 : n ≤ 1000000000) : Ev (fun k => spec_whOf.f k W D n) (txt (cod D W.toNat n)) := by
  obtain ⟨hw, hw6, hw0⟩ := LK.w h
  have hD := LK.d h
  have hD0 : 0 < D := by omega
  unfold spec_whOf.f
  simp only [if_pos (show 0 ≤ W by omega), if_pos (show W.toNat ≤ 35184372088832 by omega), w64 (x := W - 1) (by omega) (by omega)]
  have key := ev_loop (g := fun j k => spec_whOf.l0 k (n / D ^ j) (List.replicate (W.toNat - j) 0 ++ cod D j n) ((W.toNat : Int) - 1 - j) W D) (r := txt (cod D W.toNat n)) W.toNat ?_ ?_
  · rw [Int.pow_zero, Int.ediv_one] at key
    simp only [Nat.sub_zero, cod, List.append_nil, hw] at key
    rw [show W - 1 - ((0 : Nat) : Int) = W - 1 by omega] at key
    exact key
  · intro j hj ih
    have db := div_bd hD0 h0 j
    have db1 := div_bd hD0 h0 (j + 1)
    refine Ev.succ ?_
    have e1 : (List.replicate (W.toNat - j) 0 ++ cod D j n).length = W.toNat := by simp [cod_len]; omega
    have e2 : Int.tdiv (n / D ^ j) D = n / D ^ (j + 1) := by rw [Int.tdiv_eq_ediv_of_nonneg db.1, div_step hD0]
    have e3 : Int.tmod (n / D ^ j) D = n / D ^ j % D := Int.tmod_eq_emod_of_nonneg db.1
    have e4 : ((W.toNat : Int) - 1 - j).toNat = W.toNat - (j + 1) := by omega
    simp only [spec_whOf.l0, e1, if_pos (show (W.toNat : Int) - 1 - j ≥ 0 by omega), if_neg (show ¬ D = 0 by omega), if_pos (show (W.toNat : Int) - 1 - j < (W.toNat : Int) by omega), e2, e3, e4,
      w64 (x := n / D ^ (j + 1)) (by omega) (by omega), w64 (x := (W.toNat : Int) - 1 - j - 1) (by omega) (by omega)]
    rw [show W.toNat - j = W.toNat - (j + 1) + 1 by omega, rep_set]
    rw [show (W.toNat : Int) - 1 - j - 1 = (W.toNat : Int) - 1 - ((j + 1 : Nat) : Int) by omega]
    exact ih
  · refine Ev.succ ?_
    simp only [spec_whOf.l0, if_neg (show ¬ ((W.toNat : Int) - 1 - (W.toNat : Int) ≥ 0) by omega), Nat.sub_self, List.replicate_zero, List.nil_append]
    exact Ev.bind (whText_ev _ (by rw [cod_len]; omega) (IsD.mono (cod_isD hD0 _ _) hD.2)) (Ev.now _)
/-- The text of a code, by its digits. -/
theorem codeOf {W D : Int} (h : LK W D) {s : ByteArray} (hc : isC W D s = true) : (digs s).length = W.toNat ∧ IsD D (digs s) ∧ txt (digs s) = s := by
  have z := isC_size hc
  refine ⟨by rw [digs_len]; omega, digs_isD (W := W) (LK.d h) (isC_isT hc), txt_digs (LK.d h) (isC_isT hc)⟩
end Go.Proofs.Ytihhiolflbieaaa.O
namespace Go.Proofs.Ytihhiolflbieaaa.O2
open Go.RowKit Go.Proofs.Ytihhiolflbieaaa.P Go.Proofs.Ytihhiolflbieaaa.B Go.Proofs.Ytihhiolflbieaaa.C Go.Proofs.Ytihhiolflbieaaa.L Go.Proofs.Ytihhiolflbieaaa.A Go.Proofs.Ytihhiolflbieaaa.O Go.Proofs.YtihhiolflbieaaaW.PrintWords Go.Proofs.YtihhiolflbieaaaW.PrintLast Go.Proofs.YtihhiolflbieaaaW.PrintMore
set_option linter.unusedVariables false
set_option linter.unusedSimpArgs false
/-- Where two codes at the distance 1 part. -/
theorem nx_at {D : Int} : ∀ {a b : List Int}, a.length = b.length → Nx D a b → ∃ i, ∃ (hi : i < a.length) (hb : i < b.length), a[i] ≠ b[i] ∧ (∀ j, j < i → a[j]? = b[j]?) ∧ ((b[i] = (a[i] + 1) % D ∧ b = a.set i ((a[i] + 1) % D)) ∨ (b[i] ≠ (a[i] + 1) % D ∧ b = a.set i ((a[i] - 1) % D)))
  | [], [], _, h => h.elim
  | [], _ :: _, _, h => h.elim
  | _ :: _, [], _, h => h.elim
  | x :: xs, y :: ys, hl, h => by
    rcases h with ⟨rfl, h⟩ | ⟨rfl, hne, h⟩
    · obtain ⟨i, hi, hb, h1, h2, h3⟩ := nx_at (by simpa using hl) h
      refine ⟨i + 1, by simpa using hi, by simpa using hb, by simpa using h1, ?_, ?_⟩
      · intro j hj
        cases j with
        | zero => rfl
        | succ j => simpa using h2 j (by omega)
      · simpa using h3
    · refine ⟨0, by simp, by simp, by simpa using hne, fun j hj => by omega, ?_⟩
      by_cases e : y = (x + 1) % D
      · left; simp [e]
      · right; rcases h with h | h
        · exact absurd h e
        · exact ⟨by simpa using e, by simp [h]⟩
def trn (m : Nat) : S66 := ⟨((m / 2 : Nat) : Int), if m % 2 = 0 then 1 else -1⟩
def trns (W : Nat) : List S66 := (List.range (2 * W)).map trn
theorem turns_ev {W : Nat} (h : W ≤ 6) : Ev (fun k => impl_turns.f k (W : Int)) (trns W) := by
  have : W = 0 ∨ W = 1 ∨ W = 2 ∨ W = 3 ∨ W = 4 ∨ W = 5 ∨ W = 6 := by omega
  rcases this with rfl | rfl | rfl | rfl | rfl | rfl | rfl <;> exact Ev.of (fun k => impl_turns.mono _ k) (k := 10) (by kernel_rfl)
def tur (D : Int) (i : Nat) (by_ : Int) (a : List Int) : List Int := a.set i ((a.getD i 0 + by_) % D)
theorem tur_isD {D : Int} (hD : 0 < D) {a : List Int} (h : IsD D a) (i : Nat) (e : Int) : IsD D (tur D i e a) := by
  intro x hx
  unfold tur at hx
  rcases List.mem_or_eq_of_mem_set hx with hx | rfl
  · exact h x hx
  · exact ⟨Int.emod_nonneg _ (by omega), Int.emod_lt_of_pos _ hD⟩
theorem tur_len (D : Int) (i : Nat) (e : Int) (a : List Int) : (tur D i e a).length = a.length := by simp [tur]
theorem turned_ev {W D : Int} (hD : 2 ≤ D ∧ D ≤ 10) {a : List Int} (ha : IsD D a) (hl : a.length ≤ 1000) {i : Nat} (hi : i < a.length) {e : Int} (he : -1000 ≤ e ∧ e ≤ 1000) :
    Ev (fun k => impl_Lock_turned.f k W D (txt a) (i : Int) e) (txt (tur D i e a)) := by
  unfold impl_Lock_turned.f
  refine Ev.bind (digits_ev _ (by rw [txt_size]; omega)) ?_
  rw [digs_txt (IsD.mono ha hD.2)]
  have x := IsD.get ha hi
  have g : a.getD i 0 = a[i] := by rw [List.getD_eq_getElem?_getD, List.getElem?_eq_getElem hi]; rfl
  simp only [if_pos (show (0 : Int) ≤ (i : Int) by omega), if_pos (show (i : Int) < (a.length : Int) by omega), rd_get a i hi, w64 (x := a[i] + e) (by omega) (by omega), around_eq (D := D) (by omega), Option.bind_some, Int.toNat_natCast]
  have t := text_ev (tur D i e a) (by rw [tur_len]; omega) (IsD.mono (tur_isD (by omega) ha i e) hD.2)
  unfold tur at t ⊢
  rw [g] at t ⊢
  exact Ev.bind t (Ev.now _)
theorem toList_inj {s t : ByteArray} : s.toList = t.toList ↔ s = t := by
  constructor
  · intro h
    rw [ByteArray.toList_eq, ByteArray.toList_eq] at h
    exact ByteArray.ext (Array.ext' h)
  · exact fun h => by rw [h]
end Go.Proofs.Ytihhiolflbieaaa.O2
namespace Go.Proofs.Ytihhiolflbieaaa.O3
open Go.RowKit Go.Proofs.Ytihhiolflbieaaa.P Go.Proofs.Ytihhiolflbieaaa.B Go.Proofs.Ytihhiolflbieaaa.C Go.Proofs.Ytihhiolflbieaaa.L Go.Proofs.Ytihhiolflbieaaa.A Go.Proofs.Ytihhiolflbieaaa.O Go.Proofs.Ytihhiolflbieaaa.O2 Go.Proofs.YtihhiolflbieaaaW.PrintWords Go.Proofs.YtihhiolflbieaaaW.PrintLast Go.Proofs.YtihhiolflbieaaaW.PrintMore
set_option linter.unusedVariables false
set_option linter.unusedSimpArgs false
theorem code_ev {W D : Int} (h : LK W D) {n : Int} (h0 : 0 ≤ n) (h1 : n ≤ 1000000000) : Ev (fun k => impl_Lock_code.f k W D n) (txt (cod D W.toNat n)) := by
  obtain ⟨hw, hw6, hw0⟩ := LK.w h
  have hD := LK.d h
  have hD0 : 0 < D := by omega
  unfold impl_Lock_code.f
  simp only [if_pos (show 0 ≤ W by omega), if_pos (show W.toNat ≤ 35184372088832 by omega), w64 (x := W - 1) (by omega) (by omega)]
  have key := ev_loop (g := fun j k => impl_Lock_code.l0 k (n / D ^ j) (List.replicate (W.toNat - j) 0 ++ cod D j n) ((W.toNat : Int) - 1 - j) W D) (r := txt (cod D W.toNat n)) W.toNat ?_ ?_
  · rw [Int.pow_zero, Int.ediv_one] at key
    simp only [Nat.sub_zero, cod, List.append_nil, hw] at key
    rw [show W - 1 - ((0 : Nat) : Int) = W - 1 by omega] at key
    exact key
  · intro j hj ih
    have db := div_bd hD0 h0 j
    have db1 := div_bd hD0 h0 (j + 1)
    refine Ev.succ ?_
    have e1 : (List.replicate (W.toNat - j) 0 ++ cod D j n).length = W.toNat := by simp [cod_len]; omega
    have e2 : Int.tdiv (n / D ^ j) D = n / D ^ (j + 1) := by rw [Int.tdiv_eq_ediv_of_nonneg db.1, div_step hD0]
    have e3 : Int.tmod (n / D ^ j) D = n / D ^ j % D := Int.tmod_eq_emod_of_nonneg db.1
    have e4 : ((W.toNat : Int) - 1 - j).toNat = W.toNat - (j + 1) := by omega
    simp only [impl_Lock_code.l0, e1, if_pos (show (W.toNat : Int) - 1 - j ≥ 0 by omega), if_neg (show ¬ D = 0 by omega), if_pos (show (W.toNat : Int) - 1 - j < (W.toNat : Int) by omega), e2, e3, e4,
      w64 (x := n / D ^ (j + 1)) (by omega) (by omega), w64 (x := (W.toNat : Int) - 1 - j - 1) (by omega) (by omega)]
    rw [show W.toNat - j = W.toNat - (j + 1) + 1 by omega, rep_set]
    rw [show (W.toNat : Int) - 1 - j - 1 = (W.toNat : Int) - 1 - ((j + 1 : Nat) : Int) by omega]
    exact ih
  · refine Ev.succ ?_
    simp only [impl_Lock_code.l0, if_neg (show ¬ ((W.toNat : Int) - 1 - (W.toNat : Int) ≥ 0) by omega), Nat.sub_self, List.replicate_zero, List.nil_append]
    exact Ev.bind (text_ev _ (by rw [cod_len]; omega) (IsD.mono (cod_isD hD0 _ _) hD.2)) (Ev.now _)
end Go.Proofs.Ytihhiolflbieaaa.O3
namespace Go.Proofs.Ytihhiolflbieaaa.R
open Go.RowKit Go.Proofs.Ytihhiolflbieaaa.P Go.Proofs.Ytihhiolflbieaaa.B Go.Proofs.Ytihhiolflbieaaa.C Go.Proofs.Ytihhiolflbieaaa.L Go.Proofs.Ytihhiolflbieaaa.A Go.Proofs.Ytihhiolflbieaaa.O Go.Proofs.Ytihhiolflbieaaa.O2 Go.Proofs.Ytihhiolflbieaaa.O3 Go.Proofs.YtihhiolflbieaaaW.PrintWords Go.Proofs.YtihhiolflbieaaaW.PrintLast Go.Proofs.YtihhiolflbieaaaW.PrintMore
set_option linter.unusedVariables false
set_option linter.unusedSimpArgs false
/-- A lock of rings. -/
def RK (W D : Int) : Prop := LK W D ∧ cnt W D ≤ 1000
instance (W D : Int) : Decidable (RK W D) := by unfold RK; infer_instance
theorem byte_inj {s t : ByteArray} (h : s.data.toList = t.data.toList) : s = t := ByteArray.ext (Array.ext' h)
end Go.Proofs.Ytihhiolflbieaaa.R
namespace Go.Proofs.Ytihhiolflbieaaa.RS
open Go.RowKit Go.Proofs.Ytihhiolflbieaaa.P Go.Proofs.Ytihhiolflbieaaa.B Go.Proofs.Ytihhiolflbieaaa.C Go.Proofs.Ytihhiolflbieaaa.L Go.Proofs.Ytihhiolflbieaaa.A Go.Proofs.Ytihhiolflbieaaa.O Go.Proofs.Ytihhiolflbieaaa.O2 Go.Proofs.Ytihhiolflbieaaa.O3 Go.Proofs.Ytihhiolflbieaaa.R Go.Proofs.YtihhiolflbieaaaW.PrintWords Go.Proofs.YtihhiolflbieaaaW.PrintLast Go.Proofs.YtihhiolflbieaaaW.PrintMore
set_option linter.unusedVariables false
set_option linter.unusedSimpArgs false
theorem cod_isC {W D : Int} (h : LK W D) (n : Int) : isC W D (txt (cod D W.toNat n)) = true := by
  have hD := LK.d h
  obtain ⟨hw, _⟩ := LK.w h
  unfold isC
  rw [txt_isT hD (cod_isD (by omega) _ _), txt_size, cod_len, Bool.and_true]
  exact decide_eq_true hw
end Go.Proofs.Ytihhiolflbieaaa.RS
namespace Go.Proofs.Ytihhiolflbieaaa.S
open Go.RowKit Go.Proofs.Ytihhiolflbieaaa.P Go.Proofs.Ytihhiolflbieaaa.B Go.Proofs.Ytihhiolflbieaaa.C Go.Proofs.Ytihhiolflbieaaa.L Go.Proofs.Ytihhiolflbieaaa.A Go.Proofs.Ytihhiolflbieaaa.O Go.Proofs.Ytihhiolflbieaaa.O2 Go.Proofs.Ytihhiolflbieaaa.O3 Go.Proofs.Ytihhiolflbieaaa.R Go.Proofs.Ytihhiolflbieaaa.RS Go.Proofs.YtihhiolflbieaaaW.PrintWords Go.Proofs.YtihhiolflbieaaaW.PrintLast Go.Proofs.YtihhiolflbieaaaW.PrintMore
set_option linter.unusedVariables false
set_option linter.unusedSimpArgs false
theorem comp_mem (zs : List (List UInt8)) (x : List UInt8) : ∀ m, (x ∈ Lib.compactUpTo zs.toArray m ↔ ∃ j, j < m ∧ zs.toArray[j]! = x)
  | 0 => by
    constructor
    · intro h; simp [Lib.compactUpTo] at h
    · rintro ⟨j, hj, _⟩; omega
  | m + 1 => by
    rw [Lib.compactUpTo_succ, List.mem_append, comp_mem zs x m]
    constructor
    · rintro (⟨j, hj, e⟩ | h)
      · exact ⟨j, by omega, e⟩
      · by_cases hk : Lib.keeps zs.toArray m = true
        · rw [if_pos hk, List.mem_singleton] at h
          exact ⟨m, by omega, h.symm⟩
        · rw [if_neg hk] at h; cases h
    · rintro ⟨j, hj, e⟩
      by_cases hm : j = m
      · subst hm
        by_cases hk : Lib.keeps zs.toArray j = true
        · right; rw [if_pos hk, List.mem_singleton]; exact e.symm
        · left
          unfold Lib.keeps at hk
          rw [decide_eq_true_eq] at hk
          refine ⟨j - 1, by omega, ?_⟩
          by_cases q : zs.toArray[j]! = zs.toArray[j - 1]!
          · rw [← q]; exact e
          · exact absurd (Or.inr q) hk
      · exact .inl ⟨j, by omega, e⟩
theorem asc {zs : List (List UInt8)} (h : zs.Pairwise (· ≤ ·)) {i j : Nat} (hij : i ≤ j) (hj : j < zs.length) : zs.toArray[i]! ≤ zs.toArray[j]! := by
  have hi : i < zs.length := by omega
  have e : ∀ k, k < zs.length → zs.toArray[k]! = zs.getD k default := by
    intro k hk
    simp [hk]
  rw [e i hi, e j hj, List.getD_eq_getElem?_getD, List.getD_eq_getElem?_getD, List.getElem?_eq_getElem hi, List.getElem?_eq_getElem hj]
  by_cases q : i = j
  · subst q; exact List.le_refl _
  · exact List.pairwise_iff_getElem.mp h i j hi hj (by omega)
theorem comp_nodup {zs : List (List UInt8)} (h : zs.Pairwise (· ≤ ·)) : ∀ m, m ≤ zs.length → (Lib.compactUpTo zs.toArray m).Nodup
  | 0, _ => by simp [Lib.compactUpTo]
  | m + 1, hm => by
    rw [Lib.compactUpTo_succ]
    by_cases hk : Lib.keeps zs.toArray m = true
    · rw [if_pos hk]
      rw [List.nodup_append]
      refine ⟨comp_nodup h m (by omega), by simp, ?_⟩
      intro a ha b hb e
      rw [List.mem_singleton] at hb
      subst hb
      obtain ⟨j, hj, q⟩ := (comp_mem zs a m).mp ha
      unfold Lib.keeps at hk
      rw [decide_eq_true_eq] at hk
      rcases hk with hk | hk
      · omega
      · have h1 := asc h (show j ≤ m - 1 by omega) (by omega)
        have h2 := asc h (show m - 1 ≤ m by omega) (by omega)
        rw [q, e] at h1
        exact hk (List.le_antisymm h1 h2)
    · rw [if_neg hk, List.append_nil]
      exact comp_nodup h m (by omega)
theorem bs_sorted (l : List ByteArray) : (impl_sorted.bs l).Pairwise (· ≤ ·) := by
  unfold impl_sorted.bs
  have := List.pairwise_mergeSort (le := fun x y : List UInt8 => decide (x ≤ y)) (fun a b c h1 h2 => by
    rw [decide_eq_true_eq] at *
    exact List.le_trans h1 h2) (fun a b => by
    rw [Bool.or_eq_true, decide_eq_true_eq, decide_eq_true_eq]
    exact List.le_total a b) (l.map fun s => s.data.toList)
  exact this.imp fun h => of_decide_eq_true h
theorem val_mem (l : List ByteArray) (s : ByteArray) : s ∈ impl_sorted.val l ↔ s ∈ l := by
  unfold impl_sorted.val Lib.compact
  rw [List.mem_map]
  have key : ∀ x : List UInt8, x ∈ Lib.compactUpTo (impl_sorted.bs l).toArray (impl_sorted.bs l).length ↔ x ∈ l.map fun s => s.data.toList := by
    intro x
    rw [comp_mem]
    have : (x ∈ l.map fun s => s.data.toList) ↔ x ∈ impl_sorted.bs l := by unfold impl_sorted.bs; rw [List.mem_mergeSort]
    rw [this, List.mem_iff_getElem]
    constructor
    · rintro ⟨j, hj, e⟩
      refine ⟨j, hj, ?_⟩
      rw [← e]; simp [hj]
    · rintro ⟨j, hj, e⟩
      refine ⟨j, hj, ?_⟩
      rw [← e]; simp [hj]
  constructor
  · rintro ⟨b, hb, rfl⟩
    obtain ⟨t, ht, e⟩ := List.mem_map.mp ((key b).mp hb)
    rw [← e]
    exact ht
  · intro hs
    exact ⟨s.data.toList, (key _).mpr (List.mem_map.mpr ⟨s, hs, rfl⟩), by rfl⟩
end Go.Proofs.Ytihhiolflbieaaa.S
namespace Go.Proofs.Ytihhiolflbieaaa.D1
open Go.RowKit Go.Proofs.Ytihhiolflbieaaa.P Go.Proofs.Ytihhiolflbieaaa.B Go.Proofs.Ytihhiolflbieaaa.C Go.Proofs.Ytihhiolflbieaaa.L Go.Proofs.Ytihhiolflbieaaa.A Go.Proofs.Ytihhiolflbieaaa.O Go.Proofs.Ytihhiolflbieaaa.O2 Go.Proofs.Ytihhiolflbieaaa.R Go.Proofs.Ytihhiolflbieaaa.RS Go.Proofs.YtihhiolflbieaaaW.PrintWords Go.Proofs.YtihhiolflbieaaaW.PrintLast Go.Proofs.YtihhiolflbieaaaW.PrintMore
set_option linter.unusedVariables false
set_option linter.unusedSimpArgs false
def nr (D x y : Int) : Int := if (y - x) % D < D - (y - x) % D then (y - x) % D else D - (y - x) % D
theorem up_mod {D x : Int} (hx : 0 ≤ x ∧ x < D) (hD : 2 ≤ D) : (x + 1) % D = if x + 1 < D then x + 1 else 0 := by
  split
  · exact Int.emod_eq_of_lt (by omega) (by omega)
  · have : x + 1 = D := by omega
    rw [this, Int.emod_self]
theorem dn_mod {D x : Int} (hx : 0 ≤ x ∧ x < D) (hD : 2 ≤ D) : (x - 1) % D = if 0 < x then x - 1 else D - 1 := by
  split
  · exact Int.emod_eq_of_lt (by omega) (by omega)
  · rw [← Int.add_emod_right]; have : x - 1 + D = D - 1 := by omega
    rw [this]; exact Int.emod_eq_of_lt (by omega) (by omega)
theorem nr_bd {D x y : Int} (hD : 2 ≤ D) : 0 ≤ nr D x y ∧ 2 * nr D x y ≤ D := by
  have h1 := Int.emod_nonneg (y - x) (b := D) (by omega)
  have h2 := Int.emod_lt_of_pos (y - x) (b := D) (by omega)
  unfold nr; split <;> omega
def dst (D : Int) : List Int → List Int → Int
  | x :: xs, y :: ys => nr D x y + dst D xs ys
  | _, _ => 0
theorem bt_dig {D : Int} (hD : 2 ≤ D ∧ D ≤ 10) {s : ByteArray} (h : isT D s = true) {j : Nat} (hj : j < (digs s).length) : bt s (j : Int) = 48 + (digs s)[j] := by
  have hj' : j < s.data.toList.length := by rw [digs_len] at hj; rw [← size_len]; exact hj
  have e := digs_get s j hj
  have b := bt_nat s j hj'
  unfold isT at h
  rw [List.all_eq_true] at h
  have q := of_decide_eq_true (h _ (List.getElem_mem hj'))
  rw [e]; omega
theorem near_eq {W D a b : Int} (hD : 2 ≤ D ∧ D ≤ 10) (ha : 0 ≤ a ∧ a ≤ 1000) (hb : 0 ≤ b ∧ b ≤ 1000) : impl_Lock_near.f W D a b = some (nr D a b) := by
  have h1 := Int.emod_nonneg (b - a) (b := D) (by omega)
  have h2 := Int.emod_lt_of_pos (b - a) (b := D) (by omega)
  unfold impl_Lock_near.f impl_Lock_gap.f
  rw [w64 (x := b - a) (by omega) (by omega), around_eq (D := D) (by omega)]
  simp only [Option.bind_some]
  rw [w64 (x := D - (b - a) % D) (by omega) (by omega)]
  unfold nr mn
  congr 1
  split <;> split <;> omega
theorem distance_ev {W D : Int} (hD : 2 ≤ D ∧ D ≤ 10) {s t : ByteArray} (hs : isT D s = true) (ht : isT D t = true) (hl : s.size = t.size) (hz : s.size ≤ 1000) : Ev (fun k => impl_Lock_distance.f k W D s t) (dst D (digs s) (digs t)) := by
  unfold impl_Lock_distance.f
  have a1 := digs_len s
  have a2 := digs_len t
  have d1 := digs_isD (W := W) hD hs
  have d2 := digs_isD (W := W) hD ht
  have key : ∀ m j : Nat, s.size - j = m → j ≤ s.size → ∀ acc : Int, 0 ≤ acc → acc ≤ 10 * (j : Int) → acc + dst D ((digs s).drop j) ((digs t).drop j) = dst D (digs s) (digs t) → Ev (fun k => impl_Lock_distance.l0 k s t acc (s.size : Int) (j : Int) W D) (dst D (digs s) (digs t)) := by
    intro m
    induction m with
    | zero =>
      intro j hm hj acc h0 h1 he
      obtain rfl : j = s.size := by omega
      rw [List.drop_of_length_le (by omega)] at he
      simp only [dst] at he
      refine Ev.succ ?_
      simp only [impl_Lock_distance.l0, if_neg (show ¬ ((s.size : Nat) : Int) < (s.size : Int) by omega)]
      rw [← he, Int.add_zero]; exact Ev.now _
    | succ m ih =>
      intro j hm hj acc h0 h1 he
      have e1 := bt_dig hD hs (j := j) (by omega)
      have e2 := bt_dig hD ht (j := j) (by omega)
      have g1 := IsD.get d1 (j := j) (by omega)
      have g2 := IsD.get d2 (j := j) (by omega)
      have nb := nr_bd (x := (digs s)[j]'(by omega)) (y := (digs t)[j]'(by omega)) hD.1
      have ne : nr D (48 + (digs s)[j]'(by omega)) (48 + (digs t)[j]'(by omega)) = nr D ((digs s)[j]'(by omega)) ((digs t)[j]'(by omega)) := by
        unfold nr; rw [show 48 + (digs t)[j]'(by omega) - (48 + (digs s)[j]'(by omega)) = (digs t)[j]'(by omega) - (digs s)[j]'(by omega) by omega]
      rw [List.drop_eq_getElem_cons (show j < (digs s).length by omega), List.drop_eq_getElem_cons (show j < (digs t).length by omega)] at he
      simp only [dst] at he
      refine Ev.succ ?_
      simp only [impl_Lock_distance.l0, if_pos (show (j : Int) < (s.size : Int) by omega), if_pos (show (0 : Int) ≤ (j : Int) by omega), if_pos (show (j : Int) < (t.size : Int) by omega), w64 (x := bt s j) (by omega) (by omega), w64 (x := bt t j) (by omega) (by omega), w64 (x := (j : Int) + 1) (by omega) (by omega)]
      rw [e1, e2, near_eq hD (by omega) (by omega), ne]
      simp only [Option.bind_some, w64 (x := acc + nr D ((digs s)[j]'(by omega)) ((digs t)[j]'(by omega))) (by omega) (by omega)]
      exact ih (j + 1) (by omega) (by omega) _ (by omega) (by omega) (by omega)
  exact key s.size 0 (by omega) (by omega) 0 (by omega) (by omega) (by simp)
theorem whFar_eq {W D a b : Int} (hD : 2 ≤ D ∧ D ≤ 10) (ha : 0 ≤ a ∧ a ≤ 1000) (hb : 0 ≤ b ∧ b ≤ 1000) : spec_whFar.f W D a b = some ((b - a) % D, (D - (b - a) % D) % D) := by
  have h1 := Int.emod_nonneg (b - a) (b := D) (by omega)
  have h2 := Int.emod_lt_of_pos (b - a) (b := D) (by omega)
  unfold spec_whFar.f
  rw [w64 (x := b - a) (by omega) (by omega), l1Mod_eq (D := D) (by omega)]
  simp only [Option.bind_some]
  rw [if_neg (by omega), w64 (x := D - (b - a) % D) (by omega) (by omega), Int.tmod_eq_emod_of_nonneg (by omega)]
theorem least_eq (a b : Int) : spec_l1Least.f a b = some (if a < b then a else b) := by
  unfold spec_l1Least.f; split <;> rfl
theorem far_nr {D a b : Int} (hD : 2 ≤ D) : (if (b - a) % D < (D - (b - a) % D) % D then (b - a) % D else (D - (b - a) % D) % D) = nr D a b := by
  have h1 := Int.emod_nonneg (b - a) (b := D) (by omega)
  have h2 := Int.emod_lt_of_pos (b - a) (b := D) (by omega)
  unfold nr
  generalize (b - a) % D = u at *
  by_cases h : u = 0
  · subst h
    rw [Int.sub_zero, Int.emod_self]
    simp; omega
  · rw [Int.emod_eq_of_lt (a := D - u) (by omega) (by omega)]
theorem whDistance_ev {W D : Int} (hD : 2 ≤ D ∧ D ≤ 10) {s t : ByteArray} (hs : isT D s = true) (ht : isT D t = true) (hl : s.size = t.size) (hz : s.size ≤ 1000) : Ev (fun k => spec_whDistance.f k W D s t) (dst D (digs s) (digs t)) := by
  unfold spec_whDistance.f
  have d1 := digs_isD (W := W) hD hs
  have d2 := digs_isD (W := W) hD ht
  refine Ev.bind (whDigits_ev s (by omega)) (Ev.bind (whDigits_ev t (by omega)) ?_)
  have a1 := digs_len s
  have a2 := digs_len t
  generalize digs s = a at *
  generalize digs t = b at *
  have key : ∀ m j : Nat, a.length - j = m → j ≤ a.length → ∀ acc : Int, 0 ≤ acc → acc ≤ 10 * (j : Int) → acc + dst D (a.drop j) (b.drop j) = dst D a b → Ev (fun k => spec_whDistance.l0 k a b acc (a.length : Int) (j : Int) W D) (dst D a b) := by
    intro m
    induction m with
    | zero =>
      intro j hm hj acc h0 h1 he
      obtain rfl : j = a.length := by omega
      rw [List.drop_of_length_le (by omega)] at he
      simp only [dst] at he
      refine Ev.succ ?_
      simp only [spec_whDistance.l0, if_neg (show ¬ ((a.length : Nat) : Int) < (a.length : Int) by omega)]
      rw [← he, Int.add_zero]; exact Ev.now _
    | succ m ih =>
      intro j hm hj acc h0 h1 he
      have g1 := IsD.get d1 (j := j) (by omega)
      have g2 := IsD.get d2 (j := j) (by omega)
      have nb := nr_bd (x := a[j]'(by omega)) (y := b[j]'(by omega)) hD.1
      rw [List.drop_eq_getElem_cons (show j < a.length by omega), List.drop_eq_getElem_cons (show j < b.length by omega)] at he
      simp only [dst] at he
      refine Ev.succ ?_
      simp only [spec_whDistance.l0, if_pos (show (j : Int) < (a.length : Int) by omega), if_pos (show (0 : Int) ≤ (j : Int) by omega), if_pos (show (j : Int) < (b.length : Int) by omega), rd_get a j (by omega), rd_get b j (by omega), w64 (x := (j : Int) + 1) (by omega) (by omega)]
      rw [whFar_eq hD (by omega) (by omega)]
      simp only [Option.bind_some, least_eq, far_nr hD.1, w64 (x := acc + nr D (a[j]'(by omega)) (b[j]'(by omega))) (by omega) (by omega)]
      exact ih (j + 1) (by omega) (by omega) _ (by omega) (by omega) (by omega)
  exact key a.length 0 (by omega) (by omega) 0 (by omega) (by omega) (by simp)
/-- The distance of texts. -/
def ds (D : Int) (s t : ByteArray) : Int := dst D (digs s) (digs t)
theorem tur_nx {D : Int} (hD : 2 ≤ D) : ∀ {a : List Int} {i : Nat} {e : Int}, IsD D a → i < a.length → e = 1 ∨ e = -1 → Nx D a (tur D i e a)
  | [], i, e, _, hi, _ => absurd hi (by simp)
  | x :: xs, 0, e, ha, hi, he => by
    obtain ⟨hx, _⟩ := IsD.cons ha
    have u := up_mod hx hD; have d := dn_mod hx hD
    unfold tur
    simp only [List.getD_cons_zero, List.set_cons_zero, Nx]
    right
    refine ⟨trivial, ?_, ?_⟩
    · rcases he with rfl | rfl
      · rw [u]; split <;> omega
      · rw [show x + -1 = x - 1 by omega, d]; split <;> omega
    · rcases he with rfl | rfl
      · exact .inl rfl
      · exact .inr (by rw [show x + -1 = x - 1 by omega])
  | x :: xs, i + 1, e, ha, hi, he => by
    obtain ⟨_, ha'⟩ := IsD.cons ha
    have := tur_nx hD (a := xs) (i := i) (e := e) ha' (by simpa using hi) he
    unfold tur at this ⊢
    simp only [List.getD_cons_succ, List.set_cons_succ, Nx]
    exact .inl ⟨trivial, this⟩
end Go.Proofs.Ytihhiolflbieaaa.D1
namespace Go.Proofs.Ytihhiolflbieaaa.D2
open Go.RowKit Go.Proofs.Ytihhiolflbieaaa.P Go.Proofs.Ytihhiolflbieaaa.B Go.Proofs.Ytihhiolflbieaaa.C Go.Proofs.Ytihhiolflbieaaa.L Go.Proofs.Ytihhiolflbieaaa.A Go.Proofs.Ytihhiolflbieaaa.O Go.Proofs.Ytihhiolflbieaaa.O2 Go.Proofs.Ytihhiolflbieaaa.R Go.Proofs.Ytihhiolflbieaaa.RS Go.Proofs.Ytihhiolflbieaaa.D1 Go.Proofs.YtihhiolflbieaaaW.PrintWords Go.Proofs.YtihhiolflbieaaaW.PrintLast Go.Proofs.YtihhiolflbieaaaW.PrintMore
set_option linter.unusedVariables false
set_option linter.unusedSimpArgs false
def gt (l : List ByteArray) (j : Nat) : ByteArray := l.getD j ByteArray.empty
theorem rd_gt (l : List ByteArray) (j : Nat) : rdOf ByteArray.empty l (j : Int) = gt l j := by unfold rdOf gt; rw [Int.toNat_natCast]
theorem gt_get (l : List ByteArray) {j : Nat} (h : j < l.length) : gt l j = l[j] := by unfold gt; rw [List.getD_eq_getElem?_getD, List.getElem?_eq_getElem h]; rfl
theorem gt_mem (l : List ByteArray) {j : Nat} (h : j < l.length) : gt l j ∈ l := by rw [gt_get l h]; exact List.getElem_mem h
def hasS (l : List ByteArray) (s : ByteArray) : Bool := l.any fun t => decide (t.data.toList = s.data.toList)
theorem hasS_iff (l : List ByteArray) (s : ByteArray) : hasS l s = true ↔ s ∈ l := by
  unfold hasS
  rw [List.any_eq_true]
  constructor
  · rintro ⟨t, ht, e⟩; rw [← byte_inj (of_decide_eq_true e)]; exact ht
  · intro h; exact ⟨s, h, decide_eq_true rfl⟩
instance : Nonempty S66 := ⟨⟨0, 0⟩⟩
end Go.Proofs.Ytihhiolflbieaaa.D2
namespace Go.Proofs.Ytihhiolflbieaaa.NX
open Go.RowKit Go.Proofs.Ytihhiolflbieaaa.P Go.Proofs.Ytihhiolflbieaaa.B Go.Proofs.Ytihhiolflbieaaa.C Go.Proofs.Ytihhiolflbieaaa.L Go.Proofs.Ytihhiolflbieaaa.A Go.Proofs.Ytihhiolflbieaaa.O Go.Proofs.Ytihhiolflbieaaa.O2 Go.Proofs.Ytihhiolflbieaaa.R Go.Proofs.Ytihhiolflbieaaa.RS Go.Proofs.Ytihhiolflbieaaa.S Go.Proofs.Ytihhiolflbieaaa.D1 Go.Proofs.Ytihhiolflbieaaa.D2 Go.Proofs.YtihhiolflbieaaaW.PrintWords Go.Proofs.YtihhiolflbieaaaW.PrintLast Go.Proofs.YtihhiolflbieaaaW.PrintMore
set_option linter.unusedVariables false
set_option linter.unusedSimpArgs false
theorem bl_iff : ∀ a b : List UInt8, Op.bytesLess a b = true ↔ a < b
  | a, [] => by simp [Op.bytesLess]
  | [], y :: b => by simp [Op.bytesLess]
  | x :: a, y :: b => by
    rw [List.cons_lt_cons_iff]
    simp only [Op.bytesLess, Bool.or_eq_true, decide_eq_true_eq, Bool.and_eq_true, beq_iff_eq, bl_iff a b]
/-- Texts in order, each once. -/
def Asc (l : List ByteArray) : Prop := l.Pairwise fun s t => s.data.toList < t.data.toList
theorem asc_eq : ∀ a b : List ByteArray, Asc a → Asc b → (∀ x, x ∈ a ↔ x ∈ b) → a = b
  | [], [], _, _, _ => rfl
  | [], y :: b, _, _, h => absurd ((h y).mpr (List.mem_cons_self ..)) (by simp)
  | x :: a, [], _, _, h => absurd ((h x).mp (List.mem_cons_self ..)) (by simp)
  | x :: a, y :: b, ha, hb, h => by
    obtain ⟨ha1, ha2⟩ := List.pairwise_cons.mp ha
    obtain ⟨hb1, hb2⟩ := List.pairwise_cons.mp hb
    have e : x = y := by
      rcases List.mem_cons.mp ((h x).mp (List.mem_cons_self ..)) with e | e
      · exact e
      · rcases List.mem_cons.mp ((h y).mpr (List.mem_cons_self ..)) with f | f
        · exact f.symm
        · exact absurd (List.lt_trans (hb1 x e) (ha1 y f)) (List.lt_irrefl _)
    subst e
    congr 1
    refine asc_eq a b ha2 hb2 fun z => ?_
    constructor
    · intro hz
      rcases List.mem_cons.mp ((h z).mp (List.mem_cons_of_mem _ hz)) with e | e
      · subst e; exact absurd (ha1 z hz) (List.lt_irrefl _)
      · exact e
    · intro hz
      rcases List.mem_cons.mp ((h z).mpr (List.mem_cons_of_mem _ hz)) with e | e
      · subst e; exact absurd (hb1 z hz) (List.lt_irrefl _)
      · exact e
theorem comp_asc {zs : List (List UInt8)} (h : zs.Pairwise (· ≤ ·)) : ∀ m, m ≤ zs.length → (Lib.compactUpTo zs.toArray m).Pairwise (· ≤ ·)
  | 0, _ => by simp [Lib.compactUpTo]
  | m + 1, hm => by
    rw [Lib.compactUpTo_succ, List.pairwise_append]
    refine ⟨comp_asc h m (by omega), by split <;> simp, ?_⟩
    intro a ha b hb
    split at hb
    · rw [List.mem_singleton] at hb
      subst hb
      obtain ⟨j, hj, rfl⟩ := (comp_mem zs a m).mp ha
      exact asc h (by omega) (by omega)
    · cases hb
theorem val_asc (l : List ByteArray) : Asc (impl_sorted.val l) := by
  have nd := comp_nodup (bs_sorted l) (impl_sorted.bs l).length (Nat.le_refl _)
  have pw := comp_asc (bs_sorted l) (impl_sorted.bs l).length (Nat.le_refl _)
  unfold Asc impl_sorted.val Lib.compact
  rw [List.pairwise_map]
  refine List.Pairwise.imp₂ ?_ pw nd
  intro a b h1 h2
  show a < b
  rcases Classical.em (a < b) with q | q
  · exact q
  · exact absurd (List.le_antisymm h1 (List.not_lt.mp q)) h2
/-- How many texts at the head are less. -/
def pl (l : List ByteArray) (s : ByteArray) : Nat := (l.takeWhile fun t => Op.bytesLess t.toList s.toList).length
def ins (l : List ByteArray) (s : ByteArray) : List ByteArray := if pl l s < l.length ∧ gt l (pl l s) = s then l else (l.take (pl l s) ++ [s]) ++ l.drop (pl l s)
theorem tl_eq (s : ByteArray) : s.toList = s.data.toList := ByteArray.toList_eq ..
theorem tw_nil {α : Type} (p : α → Bool) : ∀ l : List α, (l.takeWhile p).length ≤ l.length ∧ (∀ j (h : j < (l.takeWhile p).length) (h' : j < l.length), p l[j] = true) ∧ (∀ h : (l.takeWhile p).length < l.length, p (l[(l.takeWhile p).length]) = false)
  | [] => by simp
  | x :: l => by
    obtain ⟨h1, h2, h3⟩ := tw_nil p l
    by_cases q : p x = true
    · rw [List.takeWhile_cons_of_pos q]
      refine ⟨by simp only [List.length_cons]; omega, ?_, ?_⟩
      · intro j hj hj'
        cases j with
        | zero => exact q
        | succ j => exact h2 j (by simp only [List.length_cons] at hj; omega) (by simp only [List.length_cons] at hj'; omega)
      · intro h; simp only [List.length_cons] at h ⊢; exact h3 (by omega)
    · rw [List.takeWhile_cons_of_neg q]
      refine ⟨by simp, by simp, ?_⟩
      intro h; simp only [List.length_nil, List.getElem_cons_zero]; exact Bool.eq_false_iff.mpr q
theorem pl_le (l : List ByteArray) (s : ByteArray) : pl l s ≤ l.length := (tw_nil _ l).1
theorem pl_lt (l : List ByteArray) (s : ByteArray) {j : Nat} (h : j < pl l s) (h' : j < l.length) : Op.bytesLess l[j].toList s.toList = true := (tw_nil _ l).2.1 j h h'
theorem pl_at (l : List ByteArray) (s : ByteArray) (h : pl l s < l.length) : Op.bytesLess (l[pl l s]).toList s.toList = false := (tw_nil _ l).2.2 h
theorem ins_mem {l : List ByteArray} {s x : ByteArray} : x ∈ ins l s ↔ x ∈ l ∨ x = s := by
  unfold ins
  by_cases h : pl l s < l.length ∧ gt l (pl l s) = s
  · rw [if_pos h]
    constructor
    · exact .inl
    · rintro (q | q)
      · exact q
      · rw [q, ← h.2]; exact gt_mem l h.1
  · rw [if_neg h]
    have : (x ∈ l ↔ x ∈ l.take (pl l s) ∨ x ∈ l.drop (pl l s)) := by rw [← List.mem_append, List.take_append_drop]
    rw [List.mem_append, List.mem_append, List.mem_singleton, this]
    constructor
    · rintro ((q | q) | q)
      · exact .inl (.inl q)
      · exact .inr q
      · exact .inl (.inr q)
    · rintro ((q | q) | q)
      · exact .inl (.inl q)
      · exact .inr q
      · exact .inl (.inr q)
theorem ins_asc {l : List ByteArray} (hl : Asc l) (s : ByteArray) : Asc (ins l s) := by
  unfold ins
  by_cases h : pl l s < l.length ∧ gt l (pl l s) = s
  · rw [if_pos h]; exact hl
  · rw [if_neg h]
    have hp := List.pairwise_append.mp (show (l.take (pl l s) ++ l.drop (pl l s)).Pairwise (fun s t => s.data.toList < t.data.toList) by rw [List.take_append_drop]; exact hl)
    have hlo : ∀ a ∈ l.take (pl l s), a.data.toList < s.data.toList := by
      intro a ha
      obtain ⟨j, hj, e⟩ := List.mem_iff_getElem.mp ha
      have h1 : j < pl l s := by rw [List.length_take] at hj; omega
      have h2 : j < l.length := by rw [List.length_take] at hj; omega
      have := (bl_iff _ _).mp (pl_lt l s h1 h2)
      rw [tl_eq, tl_eq] at this
      rw [← e, List.getElem_take]; exact this
    have hhi : ∀ b ∈ l.drop (pl l s), s.data.toList < b.data.toList := by
      intro b hb
      obtain ⟨j, hj, e⟩ := List.mem_iff_getElem.mp hb
      have h1 : pl l s < l.length := by rw [List.length_drop] at hj; omega
      have h2 : pl l s + j < l.length := by rw [List.length_drop] at hj; omega
      have h3 := pl_at l s h1
      have h4 : ¬ l[pl l s].data.toList < s.data.toList := by
        intro q
        have := (bl_iff _ _).mpr q
        rw [tl_eq, tl_eq] at h3
        rw [this] at h3; cases h3
      have h5 : s.data.toList < l[pl l s].data.toList := by
        rcases Classical.em (s.data.toList < l[pl l s].data.toList) with q | q
        · exact q
        · have e2 := List.le_antisymm (List.not_lt.mp q) (List.not_lt.mp h4)
          exact absurd ⟨h1, by rw [gt_get l h1]; exact byte_inj e2⟩ h
      rw [← e, List.getElem_drop]
      cases j with
      | zero => exact h5
      | succ j => exact List.lt_trans h5 (List.pairwise_iff_getElem.mp hl _ _ h1 h2 (by omega))
    refine List.pairwise_append.mpr ⟨List.pairwise_append.mpr ⟨hp.1, by simp, ?_⟩, hp.2.1, ?_⟩
    · intro a ha b hb; rw [List.mem_singleton] at hb; subst hb; exact hlo a ha
    · intro a ha b hb
      rcases List.mem_append.mp ha with q | q
      · exact hp.2.2 a q b hb
      · rw [List.mem_singleton] at q; subst q; exact hhi b hb
theorem ins_len (l : List ByteArray) (s : ByteArray) : (ins l s).length ≤ l.length + 1 := by
  unfold ins; split
  · omega
  · simp only [List.length_append, List.length_take, List.length_drop, List.length_cons, List.length_nil]; omega
def nbs (W D : Int) (s : ByteArray) : List ByteArray := (trns W.toNat).map fun t => txt (tur D t.f0.toNat t.f1 (digs s))
def nx (W D : Int) (s : ByteArray) : List ByteArray := impl_sorted.val (nbs W D s)
theorem nbs_len (W D : Int) (s : ByteArray) : (nbs W D s).length = 2 * W.toNat := by simp [nbs, trns]
theorem nx_mem' {W D : Int} {s x : ByteArray} : x ∈ nx W D s ↔ x ∈ nbs W D s := val_mem _ _
theorem trn_f {m : Nat} : (trn m).f0.toNat = m / 2 ∧ ((trn m).f0 = ((m / 2 : Nat) : Int)) ∧ ((trn m).f1 = 1 ∨ (trn m).f1 = -1) := by
  refine ⟨by simp only [trn]; omega, rfl, ?_⟩
  simp only [trn]; split <;> simp
theorem nbs_range (W D : Int) (s : ByteArray) : nbs W D s = (List.range (2 * W.toNat)).map fun m => txt (tur D (m / 2) (trn m).f1 (digs s)) := by
  unfold nbs trns
  rw [List.map_map]
  refine List.map_congr_left fun m _ => ?_
  show txt (tur D (trn m).f0.toNat (trn m).f1 (digs s)) = _
  rw [trn_f.1]
theorem nbs_get {W D : Int} {s : ByteArray} {m : Nat} (h : m < (nbs W D s).length) : (nbs W D s)[m] = txt (tur D (m / 2) (trn m).f1 (digs s)) :=
  (List.getElem_of_eq (nbs_range W D s) h).trans (by rw [List.getElem_map, List.getElem_range])
theorem nbs_isC {W D : Int} (h : LK W D) {s : ByteArray} (hs : isC W D s = true) : ∀ x ∈ nbs W D s, isC W D x = true := by
  intro x hx
  obtain ⟨m, hm, rfl⟩ := List.mem_iff_getElem.mp hx
  obtain ⟨c1, c2, _⟩ := codeOf h hs
  rw [nbs_get]
  have hd := tur_isD (D := D) (by have := (LK.d h); omega) c2 (m / 2) (trn m).f1
  unfold isC
  rw [Bool.and_eq_true, decide_eq_true_eq]
  refine ⟨by rw [txt_size, tur_len, c1]; have := (LK.w h); omega, txt_isT (LK.d h) hd⟩
theorem nx_mem {W D : Int} (h : LK W D) {s x : ByteArray} (hs : isC W D s = true) : x ∈ nx W D s ↔ isC W D x = true ∧ Nx D (digs s) (digs x) := by
  obtain ⟨c1, c2, c3⟩ := codeOf h hs
  rw [nx_mem']
  constructor
  · intro hx
    have hc := nbs_isC h hs x hx
    obtain ⟨m, hm, e⟩ := List.mem_iff_getElem.mp hx
    rw [nbs_len] at hm
    refine ⟨hc, ?_⟩
    rw [nbs_get] at e
    rw [← e, digs_txt (IsD.mono (tur_isD (by have := (LK.d h); omega) c2 _ _) (LK.d h).2)]
    exact tur_nx (LK.d h).1 c2 (by omega) trn_f.2.2
  · rintro ⟨hc, hn⟩
    obtain ⟨d1, d2, d3⟩ := codeOf h hc
    obtain ⟨i, hi, hb, _, _, hq⟩ := nx_at (by omega) hn
    have g : (digs s).getD i 0 = (digs s)[i] := by rw [List.getD_eq_getElem?_getD, List.getElem?_eq_getElem hi]; rfl
    have key : ∀ m, m < 2 * W.toNat → digs x = tur D (m / 2) (trn m).f1 (digs s) → x ∈ nbs W D s := by
      intro m hm e
      have hm' : m < (nbs W D s).length := by rw [nbs_len]; exact hm
      have := List.getElem_mem hm'
      rw [nbs_get, ← e, d3] at this
      exact this
    rcases hq with ⟨_, e⟩ | ⟨_, e⟩
    · refine key (2 * i) (by omega) ?_
      rw [e, show 2 * i / 2 = i by omega]
      simp only [trn, tur, g, show 2 * i % 2 = 0 by omega, if_true]
    · refine key (2 * i + 1) (by omega) ?_
      rw [e, show (2 * i + 1) / 2 = i by omega]
      simp only [trn, tur, g, show (2 * i + 1) % 2 = 1 by omega, show ¬ (1 : Nat) = 0 by omega, if_false, Int.sub_eq_add_neg]
theorem nx_isC {W D : Int} (h : LK W D) {s : ByteArray} (hs : isC W D s = true) : ∀ x ∈ nx W D s, isC W D x = true := fun x hx => ((nx_mem h hs).mp hx).1
theorem nx_len (W D : Int) (s : ByteArray) : (nx W D s).length ≤ 2 * W.toNat := by
  rw [← nbs_len W D s]
  unfold nx impl_sorted.val
  rw [List.length_map]
  have := impl_sorted.compact_le (impl_sorted.bs (nbs W D s))
  have e : (impl_sorted.bs (nbs W D s)).length = (nbs W D s).length := by unfold impl_sorted.bs; rw [List.length_mergeSort, List.length_map]
  omega
theorem next_ev {W D : Int} (h : LK W D) {s : ByteArray} (hs : isC W D s = true) : Ev (fun k => impl_Lock_next.f k W D s) (nx W D s) := by
  obtain ⟨c1, c2, c3⟩ := codeOf h hs
  have hw := (LK.w h)
  have tl : (trns W.toNat).length = 2 * W.toNat := by simp [trns]
  unfold impl_Lock_next.f
  have ht := turns_ev (W := W.toNat) hw.2.1
  rw [hw.1] at ht
  refine Ev.bind ht ?_
  refine ev_loop (g := fun j k => impl_Lock_next.l0 k s ((nbs W D s).take j) (trns W.toNat) ((trns W.toNat).length : Int) (j : Int) W D) (2 * W.toNat) ?_ ?_
  · intro j hj ih
    have hjt : j < (trns W.toNat).length := by omega
    have hjn : j < (nbs W D s).length := by rw [nbs_len]; omega
    have e : rd_T66 (trns W.toNat) (j : Int) = trn j := by
      unfold rd_T66
      rw [Int.toNat_natCast, List.getD_eq_getElem?_getD, List.getElem?_eq_getElem hjt]
      simp [trns]
    have tu := turned_ev (W := W) (LK.d h) c2 (by omega) (i := j / 2) (by omega) (e := (trn j).f1) (by rcases (trn_f (m := j)).2.2 with q | q <;> rw [q] <;> omega)
    rw [c3, ← (trn_f (m := j)).2.1, ← nbs_get hjn] at tu
    refine Ev.succ ?_
    simp only [impl_Lock_next.l0, if_pos (show (j : Int) < ((trns W.toNat).length : Int) by omega), if_pos (show (0 : Int) ≤ (j : Int) by omega), e, w64 (x := (j : Int) + 1) (by omega) (by omega)]
    refine Ev.bind tu ?_
    simp only [if_pos (show ((nbs W D s).take j).length < 8796093022208 by rw [List.length_take]; omega)]
    rw [List.take_succ_eq_append_getElem hjn] at ih
    exact ih
  · refine Ev.succ ?_
    simp only [impl_Lock_next.l0, tl, if_neg (show ¬ ((2 * W.toNat : Nat) : Int) < ((2 * W.toNat : Nat) : Int) by omega)]
    rw [List.take_of_length_le (by rw [nbs_len]; omega)]
    refine Ev.bind (a := nx W D s) ?_ (Ev.now _)
    unfold impl_sorted.f
    simp only [if_pos (show (nbs W D s).length ≤ 1000000000 by rw [nbs_len]; omega)]
    exact Ev.now _
theorem whMake_ev {W D : Int} (hD : 2 ≤ D ∧ D ≤ 10) {a : List Int} (ha : IsD D a) (hl : a.length ≤ 1000) {i : Nat} (hi : i < a.length) {e : Int} (he : -1000 ≤ e ∧ e ≤ 1000) :
    Ev (fun k => spec_whMake.f k W D (txt a) (i : Int) e) (txt (tur D i e a)) := by
  unfold spec_whMake.f
  refine Ev.bind (whDigits_ev _ (by rw [txt_size]; omega)) ?_
  rw [digs_txt (IsD.mono ha hD.2)]
  have x := IsD.get ha hi
  have g : a.getD i 0 = a[i] := by rw [List.getD_eq_getElem?_getD, List.getElem?_eq_getElem hi]; rfl
  simp only [if_pos (show (0 : Int) ≤ (i : Int) by omega), if_pos (show (i : Int) < (a.length : Int) by omega), rd_get a i hi, w64 (x := a[i] + e) (by omega) (by omega), l1Mod_eq (D := D) (by omega), Option.bind_some, Int.toNat_natCast]
  have t := whText_ev (tur D i e a) (by rw [tur_len]; omega) (IsD.mono (tur_isD (by omega) ha i e) hD.2)
  unfold tur at t ⊢
  rw [g] at t ⊢
  exact Ev.bind t (Ev.now _)
/-- The texts put in one after the other. -/
def insAll (l : List ByteArray) : List ByteArray := l.foldl ins []
theorem insAll_mem (l : List ByteArray) : ∀ acc x, x ∈ l.foldl ins acc ↔ x ∈ acc ∨ x ∈ l := by
  induction l with
  | nil => intro acc x; simp
  | cons y l ih =>
    intro acc x
    rw [List.foldl_cons, ih, ins_mem, List.mem_cons, or_assoc]
theorem insAll_asc (l : List ByteArray) : ∀ acc, Asc acc → Asc (l.foldl ins acc) := by
  induction l with
  | nil => intro acc h; exact h
  | cons y l ih => intro acc h; exact ih _ (ins_asc h y)
theorem insAll_val (l : List ByteArray) : insAll l = impl_sorted.val l := asc_eq _ _ (insAll_asc l _ List.Pairwise.nil) (val_asc l) fun x => by
  rw [show insAll l = l.foldl ins [] from rfl, insAll_mem, val_mem]; simp
theorem insAll_snoc (l : List ByteArray) (s : ByteArray) : insAll (l ++ [s]) = ins (insAll l) s := by unfold insAll; rw [List.foldl_append]; rfl
theorem insAll_len (l : List ByteArray) : (insAll l).length ≤ l.length := by
  rw [insAll_val]
  unfold impl_sorted.val
  rw [List.length_map]
  have := impl_sorted.compact_le (impl_sorted.bs l)
  have e : (impl_sorted.bs l).length = l.length := by unfold impl_sorted.bs; rw [List.length_mergeSort, List.length_map]
  omega
theorem l2_ev {W D : Int} (s : ByteArray) (x6 : List ByteArray) (hl : x6.length ≤ 1000) (x7 : Int) (t : ByteArray) (x22 : List Int) (x23 x24 : Int) (r : List ByteArray × Bool)
    (h : Ev (fun k => spec_NextCodes.l1 k s (ins x6 t) x7 x22 x23 (wrap64 (x24 + 1)) W D) r) : Ev (fun k => spec_NextCodes.l2 k s x6 x7 t 0 x22 x23 x24 W D) r := by
  have hp := pl_le x6 t
  refine ev_loop (g := fun j k => spec_NextCodes.l2 k s x6 x7 t (j : Int) x22 x23 x24 W D) (pl x6 t) ?_ ?_
  · intro j hj ih
    have g : rdOf ByteArray.empty x6 (j : Int) = x6[j]'(by omega) := by rw [rd_gt, gt_get x6 (by omega)]
    refine Ev.succ ?_
    simp only [spec_NextCodes.l2, if_pos (show (j : Int) < (x6.length : Int) by omega), if_pos (show (0 : Int) ≤ (j : Int) by omega), g, pl_lt x6 t hj (by omega), if_true, w64 (x := (j : Int) + 1) (by omega) (by omega)]
    exact ih
  · refine Ev.succ ?_
    by_cases q : pl x6 t < x6.length
    · have g : rdOf ByteArray.empty x6 ((pl x6 t : Nat) : Int) = x6[pl x6 t] := by rw [rd_gt, gt_get x6 q]
      simp only [spec_NextCodes.l2, if_pos (show ((pl x6 t : Nat) : Int) < (x6.length : Int) by omega), if_pos (show (0 : Int) ≤ ((pl x6 t : Nat) : Int) by omega), g, pl_at x6 t q, Bool.false_eq_true, if_false, if_neg (show ¬ ((pl x6 t : Nat) : Int) = (x6.length : Int) by omega)]
      by_cases e : x6[pl x6 t] = t
      · simp only [if_pos (toList_inj.mpr e)]
        have : ins x6 t = x6 := by unfold ins; rw [if_pos ⟨q, by rw [gt_get x6 q]; exact e⟩]
        rw [this] at h
        exact h
      · simp only [if_neg (fun q_ => e (toList_inj.mp q_))]
        have : ins x6 t = (x6.take (pl x6 t) ++ [t]) ++ x6.drop (pl x6 t) := by unfold ins; rw [if_neg (fun q_ => e (by rw [← gt_get x6 q]; exact q_.2))]
        rw [this] at h
        simp only [if_pos (show ((pl x6 t : Nat) : Int) ≤ (x6.length : Int) by omega), Option.bind_some, if_pos (show x6.length < 8796093022000 by omega), Int.toNat_natCast]
        exact h
    · have qe : pl x6 t = x6.length := by omega
      have : ins x6 t = (x6.take (pl x6 t) ++ [t]) ++ x6.drop (pl x6 t) := by unfold ins; rw [if_neg (fun q_ => q q_.1)]
      rw [this, qe] at h
      rw [qe]
      simp only [spec_NextCodes.l2, if_neg (show ¬ ((x6.length : Nat) : Int) < (x6.length : Int) by omega), if_true, if_pos (show (0 : Int) ≤ ((x6.length : Nat) : Int) by omega), if_pos (show ((x6.length : Nat) : Int) ≤ (x6.length : Int) by omega), Option.bind_some, if_pos (show x6.length < 8796093022000 by omega), Int.toNat_natCast]
      exact h
theorem nextCodes_ev {W D : Int} (h : LK W D) {s : ByteArray} (hs : isC W D s = true) (hz : s.size ≤ 140737488351232) : Ev (fun k => spec_NextCodes.f k W D s) (nx W D s, true) := by
  obtain ⟨c1, c2, c3⟩ := codeOf h hs
  have hw := (LK.w h)
  unfold spec_NextCodes.f
  refine Ev.bind (whAsked_ev W D s hz) ?_
  rw [decide_eq_true h, hs]
  simp only [Bool.and_self, if_true]
  have nl := nbs_len W D s
  have il : ∀ j, (insAll ((nbs W D s).take j)).length ≤ 1000 := fun j => by
    have := insAll_len ((nbs W D s).take j)
    rw [List.length_take] at this
    omega
  refine ev_loop (g := fun j k => spec_NextCodes.l0 k s (insAll ((nbs W D s).take (2 * j))) (j : Int) W D) W.toNat ?_ ?_
  · intro j hj ih
    have w1 := whMake_ev (W := W) (LK.d h) c2 (by omega) (i := j) (by omega) (e := 1) (by omega)
    have w2 := whMake_ev (W := W) (LK.d h) c2 (by omega) (i := j) (by omega) (e := -1) (by omega)
    rw [c3] at w1 w2
    have hm1 : 2 * j < (nbs W D s).length := by omega
    have hm2 : 2 * j + 1 < (nbs W D s).length := by omega
    have e1 : (nbs W D s)[2 * j] = txt (tur D j 1 (digs s)) := by
      rw [nbs_get, show 2 * j / 2 = j by omega]
      simp only [trn, show 2 * j % 2 = 0 by omega, if_true]
    have e2 : (nbs W D s)[2 * j + 1] = txt (tur D j (-1) (digs s)) := by
      rw [nbs_get, show (2 * j + 1) / 2 = j by omega]
      simp only [trn, show (2 * j + 1) % 2 = 1 by omega, show ¬ (1 : Nat) = 0 by omega, if_false]
    rw [show 2 * (j + 1) = 2 * j + 1 + 1 by omega, List.take_succ_eq_append_getElem hm2, insAll_snoc, List.take_succ_eq_append_getElem hm1, insAll_snoc, e1, e2] at ih
    refine Ev.succ ?_
    simp only [spec_NextCodes.l0, if_pos (show (j : Int) < W by omega), Option.bind_some]
    have r0 : rd ([1, -1] : List Int) 0 = 1 := rfl
    have r1 : rd ([1, -1] : List Int) 1 = -1 := rfl
    have l2_ : (([1, -1] : List Int).length : Int) = 2 := rfl
    refine Ev.succ ?_
    simp only [spec_NextCodes.l1, l2_, if_pos (show (0 : Int) < 2 by omega), if_pos (show (0 : Int) ≤ 0 by omega), r0]
    refine Ev.bind w1 ?_
    refine l2_ev s _ (il _) _ _ _ _ _ _ ?_
    rw [show wrap64 (0 + 1) = 1 by unfold wrap64; omega]
    refine Ev.succ ?_
    simp only [spec_NextCodes.l1, l2_, if_pos (show (1 : Int) < 2 by omega), if_pos (show (0 : Int) ≤ 1 by omega), r1]
    refine Ev.bind w2 ?_
    refine l2_ev s _ ?_ _ _ _ _ _ _ ?_
    · have := ins_len (insAll ((nbs W D s).take (2 * j))) (txt (tur D j 1 (digs s)))
      have := insAll_len ((nbs W D s).take (2 * j))
      rw [List.length_take] at this
      omega
    rw [show wrap64 (1 + 1) = 2 by unfold wrap64; omega]
    refine Ev.succ ?_
    simp only [spec_NextCodes.l1, l2_, if_neg (show ¬ (2 : Int) < 2 by omega), w64 (x := (j : Int) + 1) (by omega) (by omega)]
    exact ih
  · refine Ev.succ ?_
    simp only [spec_NextCodes.l0, hw.1, if_neg (show ¬ W < W by omega)]
    rw [List.take_of_length_le (by omega), insAll_val]
    exact Ev.now _
end Go.Proofs.Ytihhiolflbieaaa.NX
namespace Go.Proofs.Ytihhiolflbieaaa.HO
open Go.RowKit Go.Proofs.Ytihhiolflbieaaa.P Go.Proofs.Ytihhiolflbieaaa.B Go.Proofs.Ytihhiolflbieaaa.C Go.Proofs.Ytihhiolflbieaaa.L Go.Proofs.Ytihhiolflbieaaa.A Go.Proofs.Ytihhiolflbieaaa.O Go.Proofs.Ytihhiolflbieaaa.O2 Go.Proofs.Ytihhiolflbieaaa.O3 Go.Proofs.Ytihhiolflbieaaa.R Go.Proofs.Ytihhiolflbieaaa.RS Go.Proofs.Ytihhiolflbieaaa.S Go.Proofs.Ytihhiolflbieaaa.D1 Go.Proofs.Ytihhiolflbieaaa.D2 Go.Proofs.Ytihhiolflbieaaa.NX Go.Proofs.YtihhiolflbieaaaW.PrintWords Go.Proofs.YtihhiolflbieaaaW.PrintLast Go.Proofs.YtihhiolflbieaaaW.PrintMore
set_option linter.unusedVariables false
set_option linter.unusedSimpArgs false
theorem hasS_ev (l : List ByteArray) (s : ByteArray) (hl : l.length ≤ 1000000000) : Ev (fun k => spec_l1HasS.f k l s) (hasS l s) := by
  unfold spec_l1HasS.f
  have key := ev_down (g := fun j k => spec_l1HasS.l0 k s l (l.length : Int) (j : Int)) (R := fun j => hasS (l.drop j) s) l.length ?_ ?_
  · simpa using key
  · intro j hj ih
    have g : rdOf ByteArray.empty l (j : Int) = l[j] := by rw [rd_gt, gt_get l hj]
    have e : hasS (l.drop j) s = (decide (l[j] = s) || hasS (l.drop (j + 1)) s) := by
      rw [List.drop_eq_getElem_cons hj]
      unfold hasS
      rw [List.any_cons]
      congr 1
      rw [decide_eq_decide]
      exact ⟨fun q => byte_inj q, fun q => by rw [q]⟩
    refine Ev.succ ?_
    simp only [spec_l1HasS.l0, if_pos (show (j : Int) < (l.length : Int) by omega), if_pos (show (0 : Int) ≤ (j : Int) by omega), g, w64 (x := (j : Int) + 1) (by omega) (by omega)]
    by_cases q : l[j] = s
    · simp only [if_pos (toList_inj.mpr q)]
      rw [e, decide_eq_true q, Bool.true_or]; exact Ev.now _
    · simp only [if_neg (fun q_ => q (toList_inj.mp q_))]
      rw [e, decide_eq_false q, Bool.false_or]; exact ih
  · refine Ev.succ ?_
    simp only [spec_l1HasS.l0, if_neg (show ¬ ((l.length : Nat) : Int) < (l.length : Int) by omega)]
    rw [List.drop_length]; exact Ev.now _
theorem contains_eq (l : List ByteArray) (s : ByteArray) : Lib.containsS l s = hasS l s := by
  rw [Bool.eq_iff_iff, Lib.containsS_iff, hasS_iff]
/-- A next code taken in. -/
def stepS (f : List ByteArray → List ByteArray × Nat × Nat) (codes : List ByteArray) (acc : List ByteArray × Nat × Nat) (s : ByteArray) : List ByteArray × Nat × Nat :=
  if hasS codes s = true then acc else (if acc.2.1 = 0 then (f (codes ++ [s])).1 else acc.1, acc.2.1 + (f (codes ++ [s])).2.1, acc.2.2 + (f (codes ++ [s])).2.2)
def se (W D : Int) : Nat → List ByteArray → List ByteArray × Nat × Nat
  | 0, codes => (codes, 1, if ds D (gt codes 0) (gt codes (codes.length - 1)) = 1 then 1 else 0)
  | d + 1, codes => (nx W D (gt codes (codes.length - 1))).foldl (stepS (se W D d) codes) ([], 0, 0)
/-- What stands after some codes were taken in. -/
def Ok (b : Nat) (a : List ByteArray × Nat × Nat) : Prop := a.2.1 ≤ b ∧ a.2.2 ≤ a.2.1 ∧ (a.1.length = 0 ↔ a.2.1 = 0)
theorem step_ok {f : List ByteArray → List ByteArray × Nat × Nat} {codes : List ByteArray} {s : ByteArray} {b c : Nat} (hf : Ok b (f (codes ++ [s]))) {acc : List ByteArray × Nat × Nat} (ha : Ok c acc) : Ok (c + b) (stepS f codes acc s) := by
  unfold stepS
  obtain ⟨f1, f2, f3⟩ := hf
  obtain ⟨a1, a2, a3⟩ := ha
  split
  · exact ⟨by omega, a2, a3⟩
  · refine ⟨by show acc.2.1 + _ ≤ _; omega, by show acc.2.2 + _ ≤ acc.2.1 + _; omega, ?_⟩
    show (if acc.2.1 = 0 then (f (codes ++ [s])).1 else acc.1).length = 0 ↔ acc.2.1 + (f (codes ++ [s])).2.1 = 0
    split
    · rename_i q; rw [f3]; omega
    · rename_i q; rw [a3]; omega
theorem fold_ok {f : List ByteArray → List ByteArray × Nat × Nat} {codes : List ByteArray} {b : Nat} : ∀ (ns : List ByteArray) (hf : ∀ s ∈ ns, Ok b (f (codes ++ [s]))) (c : Nat) (acc : List ByteArray × Nat × Nat), Ok c acc → Ok (c + ns.length * b) (ns.foldl (stepS f codes) acc)
  | [], _, c, acc, h => by simpa using h
  | s :: ns, hf, c, acc, h => by
    have := fold_ok ns (fun x hx => hf x (List.mem_cons_of_mem _ hx)) (c + b) _ (step_ok (hf s (List.mem_cons_self ..)) h)
    rw [List.foldl_cons, List.length_cons, Nat.add_mul, Nat.one_mul, Nat.add_comm (ns.length * b) b, ← Nat.add_assoc]
    exact this
theorem Ok.mono {b c : Nat} {a : List ByteArray × Nat × Nat} (h : Ok b a) (hbc : b ≤ c) : Ok c a := ⟨Nat.le_trans h.1 hbc, h.2⟩
theorem se_ok {W D : Int} (h : LK W D) : ∀ (d : Nat) (codes : List ByteArray), 0 < codes.length → Ok (12 ^ d) (se W D d codes)
  | 0, codes, hc => ⟨by simp [se], by show (if _ then 1 else 0) ≤ 1; split <;> omega, by show codes.length = 0 ↔ 1 = 0; omega⟩
  | d + 1, codes, hc => by
    have h1 := fold_ok (f := se W D d) (codes := codes) (b := 12 ^ d) (nx W D (gt codes (codes.length - 1))) (fun s _ => se_ok h d (codes ++ [s]) (by simp)) 0 ([], 0, 0) ⟨by simp, by simp, by simp⟩
    refine Ok.mono h1 ?_
    have h2 := nx_len W D (gt codes (codes.length - 1))
    have h3 := (LK.w h)
    rw [Nat.zero_add, Nat.pow_succ, Nat.mul_comm (12 ^ d) 12]
    exact Nat.mul_le_mul_right _ (by omega)
theorem pow12 {d : Nat} (h : d ≤ 9) : 12 ^ d ≤ 5159780352 := Nat.le_trans (Nat.pow_le_pow_right (by omega) h) (by decide)
theorem ownS_eq (l : List ByteArray) (h : l.length < 8796093022208) : spec_l1OwnS.f l = some l := by
  unfold spec_l1OwnS.f
  simp only [Option.bind_some, List.length_nil, Nat.zero_add, if_pos h, List.nil_append]
theorem last_ix {codes : List ByteArray} (h : 0 < codes.length) (h2 : codes.length ≤ 1000000) : wrap64 ((codes.length : Int) - 1) = ((codes.length - 1 : Nat) : Int) := by
  rw [w64 (by omega) (by omega)]; omega
theorem orSearch_ev {W D : Int} (h : LK W D) (hN : cnt W D ≤ 9) : ∀ (d : Nat) (codes : List ByteArray), 0 < codes.length → (codes.length : Int) + d = cnt W D → (∀ s ∈ codes, isC W D s = true) →
    Ev (fun k => spec_orSearch.f k W D codes) ((se W D d codes).1, ((se W D d codes).2.1 : Int), ((se W D d codes).2.2 : Int))
  | 0, codes, hp, hl, hc => by
    have c0 := hc _ (gt_mem codes hp)
    have c1 := hc _ (gt_mem codes (show codes.length - 1 < codes.length by omega))
    have w := whDistance_ev (W := W) (LK.d h) (isC_isT c0) (isC_isT c1) (by have := isC_size c0; have := isC_size c1; omega) (by have := isC_size c0; have := (LK.w h); omega)
    refine Ev.succ ?_
    simp only [spec_orSearch.f]
    refine Ev.bind (whCount_ev h) ?_
    simp only [if_pos (show (codes.length : Int) = cnt W D by omega), last_ix hp (by omega), rd_gt, show (0 : Int) = ((0 : Nat) : Int) from rfl, if_pos (show ((0 : Nat) : Int) < (codes.length : Int) by omega), if_pos (show ((0 : Nat) : Int) ≤ ((codes.length - 1 : Nat) : Int) by omega), if_pos (show ((codes.length - 1 : Nat) : Int) < (codes.length : Int) by omega)]
    refine Ev.bind w ?_
    have od := ownS_eq codes (by omega)
    show Ev _ (codes, ((1 : Nat) : Int), (((if ds D (gt codes 0) (gt codes (codes.length - 1)) = 1 then 1 else 0 : Nat)) : Int))
    by_cases q : dst D (digs (gt codes 0)) (digs (gt codes (codes.length - 1))) = 1
    · simp only [q, if_true, od, Option.bind_some, ds]; exact Ev.now _
    · simp only [q, if_false, od, Option.bind_some, ds]; exact Ev.now _
  | d + 1, codes, hp, hl, hc => by
    have c1 := hc _ (gt_mem codes (show codes.length - 1 < codes.length by omega))
    have nc := nx_isC h c1
    have nl := nx_len W D (gt codes (codes.length - 1))
    have hw := (LK.w h)
    refine Ev.succ ?_
    simp only [spec_orSearch.f]
    refine Ev.bind (whCount_ev h) ?_
    simp only [if_neg (show ¬ (codes.length : Int) = cnt W D by omega), last_ix hp (by omega), rd_gt, if_pos (show (0 : Int) ≤ ((codes.length - 1 : Nat) : Int) by omega), if_pos (show ((codes.length - 1 : Nat) : Int) < (codes.length : Int) by omega)]
    refine Ev.bind (nextCodes_ev h c1 (by have := isC_size c1; omega)) ?_
    show Ev _ (((nx W D (gt codes (codes.length - 1))).foldl (stepS (se W D d) codes) ([], 0, 0)).1, _, _)
    obtain ⟨ns, hns⟩ : ∃ ns, nx W D (gt codes (codes.length - 1)) = ns := ⟨_, rfl⟩
    simp only [se]
    rw [hns] at nc nl ⊢
    have key := ev_down (g := fun j k => spec_orSearch.l0 k codes ((ns.take j).foldl (stepS (se W D d) codes) ([], 0, 0)).1 (((ns.take j).foldl (stepS (se W D d) codes) ([], 0, 0)).2.1 : Int) (((ns.take j).foldl (stepS (se W D d) codes) ([], 0, 0)).2.2 : Int) ns (ns.length : Int) (j : Int) W D)
      (R := fun _ => ((ns.foldl (stepS (se W D d) codes) ([], 0, 0)).1, ((ns.foldl (stepS (se W D d) codes) ([], 0, 0)).2.1 : Int), ((ns.foldl (stepS (se W D d) codes) ([], 0, 0)).2.2 : Int))) ns.length ?_ ?_
    · exact key
    · intro j hj ih
      have ok := fold_ok (f := se W D d) (codes := codes) (b := 12 ^ d) (ns.take j) (fun s _ => se_ok h d (codes ++ [s]) (by simp)) 0 ([], 0, 0) ⟨by simp, by simp, by simp⟩
      obtain ⟨acc, hacc⟩ : ∃ acc, (ns.take j).foldl (stepS (se W D d) codes) ([], 0, 0) = acc := ⟨_, rfl⟩
      have p9 := pow12 (d := d) (by omega)
      have bb : (ns.take j).length * 12 ^ d ≤ 12 * 5159780352 := Nat.mul_le_mul (by rw [List.length_take]; omega) p9
      rw [List.take_succ_eq_append_getElem hj, List.foldl_append] at ih
      simp only [List.foldl_cons, List.foldl_nil] at ih
      rw [hacc] at ih ok ⊢
      obtain ⟨k1, k2, k3⟩ := ok
      have g : rdOf ByteArray.empty ns (j : Int) = ns[j] := by rw [rd_gt, gt_get ns hj]
      have sc := nc _ (List.getElem_mem hj)
      refine Ev.succ ?_
      simp only [spec_orSearch.l0, if_pos (show (j : Int) < (ns.length : Int) by omega), if_pos (show (0 : Int) ≤ (j : Int) by omega), g, w64 (x := (j : Int) + 1) (by omega) (by omega)]
      refine Ev.bind (hasS_ev codes ns[j] (by omega)) ?_
      by_cases q : hasS codes ns[j] = true
      · simp only [q, if_true]
        rw [show stepS (se W D d) codes acc ns[j] = acc by unfold stepS; rw [if_pos q]] at ih
        exact ih
      · have so := se_ok h d (codes ++ [ns[j]]) (by simp)
        obtain ⟨s1, s2, s3⟩ := so
        have e : stepS (se W D d) codes acc ns[j] = (if acc.2.1 = 0 then (se W D d (codes ++ [ns[j]])).1 else acc.1, acc.2.1 + (se W D d (codes ++ [ns[j]])).2.1, acc.2.2 + (se W D d (codes ++ [ns[j]])).2.2) := by unfold stepS; rw [if_neg q]
        rw [e] at ih
        have ol : (codes ++ [ns[j]]).length = codes.length + 1 := by rw [List.length_append]; rfl
        simp only [Bool.eq_false_iff.mpr q, Bool.false_eq_true, if_false, ownS_eq codes (by omega), Option.bind_some, List.length_cons, List.length_nil, if_pos (show codes.length + (0 + 1) < 8796093022208 by omega)]
        refine Ev.bind (orSearch_ev h hN d (codes ++ [ns[j]]) (by omega) (by omega) (fun s hs => by
          rcases List.mem_append.mp hs with hs | hs
          · exact hc s hs
          · rw [List.mem_singleton.mp hs]; exact sc)) ?_
        simp only [w64 (x := (acc.2.1 : Int) + ((se W D d (codes ++ [ns[j]])).2.1 : Int)) (by omega) (by omega), w64 (x := (acc.2.2 : Int) + ((se W D d (codes ++ [ns[j]])).2.2 : Int)) (by omega) (by omega)]
        by_cases z : acc.2.1 = 0
        · simp only [z, Int.natCast_zero, if_true] at ih ⊢
          exact ih
        · simp only [z, if_false, if_neg (show ¬ (acc.2.1 : Int) = 0 by omega)] at ih ⊢
          exact ih
    · refine Ev.succ ?_
      simp only [spec_orSearch.l0, if_neg (show ¬ ((ns.length : Nat) : Int) < (ns.length : Int) by omega)]
      rw [List.take_length]; exact Ev.now _
theorem go_ev {W D : Int} (h : LK W D) (hN : cnt W D ≤ 9) : ∀ (d : Nat) (way first : List ByteArray) (whole closed : Nat), 0 < way.length → (way.length : Int) + d = cnt W D → (∀ s ∈ way, isC W D s = true) → whole + 12 ^ d ≤ 1000000000000000000 → closed + 12 ^ d ≤ 1000000000000000000 →
    Ev (fun k => impl_Lock_wholes.go k W D way first (whole : Int) (closed : Int)) (if first.length = 0 then (se W D d way).1 else first, ((whole + (se W D d way).2.1 : Nat) : Int), ((closed + (se W D d way).2.2 : Nat) : Int))
  | 0, way, first, whole, closed, hp, hl, hc, hb1, hb2 => by
    have c0 := hc _ (gt_mem way hp)
    have c1 := hc _ (gt_mem way (show way.length - 1 < way.length by omega))
    have w := distance_ev (W := W) (LK.d h) (isC_isT c0) (isC_isT c1) (by have := isC_size c0; have := isC_size c1; omega) (by have := isC_size c0; have := (LK.w h); omega)
    refine Ev.succ ?_
    simp only [impl_Lock_wholes.go, last_ix hp (by omega), rd_gt, show (0 : Int) = ((0 : Nat) : Int) from rfl, if_pos (show ((0 : Nat) : Int) ≤ ((way.length - 1 : Nat) : Int) by omega), if_pos (show ((way.length - 1 : Nat) : Int) < (way.length : Int) by omega)]
    refine Ev.bind (count_ev h) ?_
    simp only [if_pos (show (way.length : Int) = cnt W D by omega), if_pos (show way.length < 8796093022000 by omega)]
    refine Ev.bind w ?_
    have e1 : wrap64 ((whole : Int) + 1) = ((whole + 1 : Nat) : Int) := by rw [w64 (by omega) (by omega)]; omega
    have e2 : wrap64 ((closed : Int) + 1) = ((closed + 1 : Nat) : Int) := by rw [w64 (by omega) (by omega)]; omega
    rw [e1, e2]
    show Ev _ (if first.length = 0 then way else first, ((whole + 1 : Nat) : Int), ((closed + (if ds D (gt way 0) (gt way (way.length - 1)) = 1 then 1 else 0) : Nat) : Int))
    by_cases q : dst D (digs (gt way 0)) (digs (gt way (way.length - 1))) = 1
    · simp only [q, if_true, ds]; exact Ev.now _
    · simp only [q, if_false, ds, Nat.add_zero]; exact Ev.now _
  | d + 1, way, first, whole, closed, hp, hl, hc, hb1, hb2 => by
    have c1 := hc _ (gt_mem way (show way.length - 1 < way.length by omega))
    have nc := nx_isC h c1
    have nl := nx_len W D (gt way (way.length - 1))
    have hw := (LK.w h)
    refine Ev.succ ?_
    simp only [impl_Lock_wholes.go, last_ix hp (by omega), rd_gt, if_pos (show (0 : Int) ≤ ((way.length - 1 : Nat) : Int) by omega), if_pos (show ((way.length - 1 : Nat) : Int) < (way.length : Int) by omega)]
    refine Ev.bind (count_ev h) ?_
    simp only [if_neg (show ¬ (way.length : Int) = cnt W D by omega)]
    refine Ev.bind (next_ev h c1) ?_
    obtain ⟨ns, hns⟩ : ∃ ns, nx W D (gt way (way.length - 1)) = ns := ⟨_, rfl⟩
    simp only [se]
    rw [hns] at nc nl ⊢
    have key := ev_down (g := fun j k => impl_Lock_wholes.rep k W D way ns (j : Int) (if first.length = 0 then ((ns.take j).foldl (stepS (se W D d) way) ([], 0, 0)).1 else first) ((whole + ((ns.take j).foldl (stepS (se W D d) way) ([], 0, 0)).2.1 : Nat) : Int) ((closed + ((ns.take j).foldl (stepS (se W D d) way) ([], 0, 0)).2.2 : Nat) : Int))
      (R := fun _ => (if first.length = 0 then (ns.foldl (stepS (se W D d) way) ([], 0, 0)).1 else first, ((whole + (ns.foldl (stepS (se W D d) way) ([], 0, 0)).2.1 : Nat) : Int), ((closed + (ns.foldl (stepS (se W D d) way) ([], 0, 0)).2.2 : Nat) : Int))) ns.length ?_ ?_
    · have e0 : (if first.length = 0 then ([] : List ByteArray) else first) = first := by
        by_cases q : first.length = 0
        · rw [if_pos q]; exact (List.length_eq_zero_iff.mp q).symm
        · rw [if_neg q]
      simp only [List.take_zero, List.foldl_nil, e0, Nat.add_zero] at key
      simpa using key
    · intro j hj ih
      have ok := fold_ok (f := se W D d) (codes := way) (b := 12 ^ d) (ns.take j) (fun s _ => se_ok h d (way ++ [s]) (by simp)) 0 ([], 0, 0) ⟨by simp, by simp, by simp⟩
      obtain ⟨acc, hacc⟩ : ∃ acc, (ns.take j).foldl (stepS (se W D d) way) ([], 0, 0) = acc := ⟨_, rfl⟩
      have bb : (ns.take j).length * 12 ^ d + 12 ^ d ≤ 12 ^ (d + 1) := by
        have : (ns.take j).length * 12 ^ d ≤ 11 * 12 ^ d := Nat.mul_le_mul_right _ (by rw [List.length_take]; omega)
        rw [Nat.pow_succ]; omega
      rw [List.take_succ_eq_append_getElem hj, List.foldl_append] at ih
      simp only [List.foldl_cons, List.foldl_nil] at ih
      rw [hacc] at ih ok ⊢
      obtain ⟨k1, k2, k3⟩ := ok
      have g : rdOf ByteArray.empty ns (j : Int) = ns[j] := by rw [rd_gt, gt_get ns hj]
      have sc := nc _ (List.getElem_mem hj)
      refine Ev.succ ?_
      simp only [impl_Lock_wholes.rep, if_pos (show (j : Int) < (ns.length : Int) by omega), if_pos (show (0 : Int) ≤ (j : Int) by omega), g, w64 (x := (j : Int) + 1) (by omega) (by omega), slices_Contains_string_string.f, if_pos (show way.length ≤ 9223372036854775807 by omega), Option.bind_some, contains_eq]
      by_cases q : hasS way ns[j] = true
      · simp only [q, if_true]
        rw [show stepS (se W D d) way acc ns[j] = acc by unfold stepS; rw [if_pos q]] at ih
        exact ih
      · have so := se_ok h d (way ++ [ns[j]]) (by simp)
        obtain ⟨s1, s2, s3⟩ := so
        have e : stepS (se W D d) way acc ns[j] = (if acc.2.1 = 0 then (se W D d (way ++ [ns[j]])).1 else acc.1, acc.2.1 + (se W D d (way ++ [ns[j]])).2.1, acc.2.2 + (se W D d (way ++ [ns[j]])).2.2) := by unfold stepS; rw [if_neg q]
        rw [e] at ih
        have ol : (way ++ [ns[j]]).length = way.length + 1 := by rw [List.length_append]; rfl
        simp only [Bool.eq_false_iff.mpr q, Bool.false_eq_true, if_false, if_pos (show way.length < 8796093022000 by omega)]
        refine Ev.bind (go_ev h hN d (way ++ [ns[j]]) _ _ _ (by omega) (by omega) (fun s hs => by
          rcases List.mem_append.mp hs with hs | hs
          · exact hc s hs
          · rw [List.mem_singleton.mp hs]; exact sc) (by omega) (by omega)) ?_
        simp only [Nat.add_assoc]
        have ef : (if (if first.length = 0 then acc.1 else first).length = 0 then (se W D d (way ++ [ns[j]])).1 else (if first.length = 0 then acc.1 else first)) = (if first.length = 0 then (if acc.2.1 = 0 then (se W D d (way ++ [ns[j]])).1 else acc.1) else first) := by
          by_cases z : first.length = 0
          · simp only [if_pos z]
            by_cases y : acc.2.1 = 0
            · rw [if_pos (k3.mpr y), if_pos y]
            · rw [if_neg (fun q_ => y (k3.mp q_)), if_neg y]
          · simp only [if_neg z]
        rw [ef]
        exact ih
    · refine Ev.succ ?_
      simp only [impl_Lock_wholes.rep, if_neg (show ¬ ((ns.length : Nat) : Int) < (ns.length : Int) by omega)]
      rw [List.take_length]; exact Ev.now _
/-- The code of zeros. -/
def zc (W D : Int) : ByteArray := txt (cod D W.toNat 0)
theorem few_ev (W D : Int) : Ev (fun k => spec_orFew.f k W D) (decide (LK W D ∧ cnt W D ≤ 9)) := by
  unfold spec_orFew.f
  by_cases h : LK W D
  · simp only [whGood_eq, Option.bind_some, decide_eq_true h, if_true]
    refine Ev.bind (whCount_ev h) ?_
    rw [show decide (LK W D ∧ cnt W D ≤ 9) = decide (cnt W D ≤ 9) by rw [decide_eq_decide]; simp [h]]
    exact Ev.now _
  · simp only [whGood_eq, Option.bind_some, decide_eq_false h, Bool.false_eq_true, if_false]
    rw [show decide (LK W D ∧ cnt W D ≤ 9) = false by rw [decide_eq_false_iff_not]; simp [h]]
    exact Ev.now _
theorem zero_ev {W D : Int} (h : LK W D) : Ev (fun k => spec_orZero.f k W D) [zc W D] := by
  unfold spec_orZero.f
  exact Ev.bind (whOf_ev h (by omega) (by omega)) (Ev.now _)
def sr (W D : Int) : List ByteArray × Nat × Nat := se W D ((cnt W D).toNat - 1) [zc W D]
theorem zc_isC {W D : Int} (h : LK W D) : ∀ s ∈ [zc W D], isC W D s = true := fun s hs => by rw [List.mem_singleton.mp hs]; exact cod_isC h 0
theorem spec_sr {W D : Int} (h : LK W D) (hN : cnt W D ≤ 9) : Ev (fun k => spec_orSearch.f k W D [zc W D]) ((sr W D).1, ((sr W D).2.1 : Int), ((sr W D).2.2 : Int)) :=
  orSearch_ev h hN ((cnt W D).toNat - 1) [zc W D] (by simp) (by have := cnt_bd h; simp only [List.length_cons, List.length_nil]; omega) (zc_isC h)
theorem impl_sr {W D : Int} (h : LK W D) (hN : cnt W D ≤ 9) : Ev (fun k => impl_Lock_wholes.f k W D) ((sr W D).1, ((sr W D).2.1 : Int), ((sr W D).2.2 : Int)) := by
  have cb := cnt_bd h
  have p := pow12 (d := (cnt W D).toNat - 1) (by omega)
  have := go_ev h hN ((cnt W D).toNat - 1) [zc W D] [] 0 0 (by simp) (by simp only [List.length_cons, List.length_nil]; omega) (zc_isC h) (by omega) (by omega)
  unfold impl_Lock_wholes.f
  refine Ev.bind (code_ev h (by omega) (by omega)) ?_
  simpa [sr, zc] using this
end Go.Proofs.Ytihhiolflbieaaa.HO
namespace Go.Proofs.Ytihhiolflbieaaa.Pure
open Go.RowKit Go.Proofs.Ytihhiolflbieaaa.P Go.Proofs.Ytihhiolflbieaaa.B Go.Proofs.Ytihhiolflbieaaa.C Go.Proofs.Ytihhiolflbieaaa.L Go.Proofs.Ytihhiolflbieaaa.A Go.Proofs.Ytihhiolflbieaaa.O Go.Proofs.Ytihhiolflbieaaa.O2 Go.Proofs.Ytihhiolflbieaaa.R Go.Proofs.Ytihhiolflbieaaa.RS Go.Proofs.Ytihhiolflbieaaa.S Go.Proofs.Ytihhiolflbieaaa.NX Go.Proofs.Ytihhiolflbieaaa.HO Go.Proofs.YtihhiolflbieaaaW.PrintWords Go.Proofs.YtihhiolflbieaaaW.PrintLast Go.Proofs.YtihhiolflbieaaaW.PrintMore
set_option linter.unusedVariables false
set_option linter.unusedSimpArgs false
theorem FnExactCountClosed : ∀ (a0_0 : Int) (a0_1 : Int), (-9223372036854775808 ≤ a0_0 ∧ a0_0 ≤ 9223372036854775807) → (-9223372036854775808 ≤ a0_1 ∧ a0_1 ≤ 9223372036854775807) → ∃ k, laws_FnExactCountClosed.f k a0_0 a0_1 = some true := by
  intro W D _ _
  refine ev_ex ?_
  have both : ∃ (n : Int) (b : Bool), Ev (fun k => spec_CountClosed.f k W D) (n, b) ∧ Ev (fun k => impl_CountClosed.f k W D) (n, b) := by
    unfold spec_CountClosed.f impl_CountClosed.f
    by_cases h : LK W D ∧ cnt W D ≤ 9
    · refine ⟨((sr W D).2.2 : Int), true, Ev.bind (few_ev W D) ?_, Ev.bind (isSmall_ev W D 9) ?_⟩
      · simp only [decide_eq_true h, if_true]
        exact Ev.bind (zero_ev h.1) (Ev.bind (spec_sr h.1 h.2) (Ev.now _))
      · simp only [decide_eq_true h, if_true]
        exact Ev.bind (impl_sr h.1 h.2) (Ev.now _)
    · refine ⟨0, false, Ev.bind (few_ev W D) ?_, Ev.bind (isSmall_ev W D 9) ?_⟩
      · simp only [decide_eq_false h, Bool.false_eq_true, if_false]; exact Ev.now _
      · simp only [decide_eq_false h, Bool.false_eq_true, if_false]; exact Ev.now _
  obtain ⟨n, b, h1, h2⟩ := both
  unfold laws_FnExactCountClosed.f
  simp only [laws_toLock.f, Option.bind_some]
  refine Ev.bind h1 (Ev.bind h2 ?_)
  simp only [if_true, bne_self_eq_false, Bool.false_eq_true, if_false]
  exact Ev.now _
end Go.Proofs.Ytihhiolflbieaaa.Pure
