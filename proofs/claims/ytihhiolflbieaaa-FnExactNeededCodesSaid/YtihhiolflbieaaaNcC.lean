/- Plain facts on texts of digits: what the functions that read and write digits answer, told as plain Lean. No conditions. -/
import Derived.Test.YtihhiolflbieaaaNcB
import Derived.Test.YtihhiolflbieaaaPx1
import Derived.Test.YtihhiolflbieaaaPx2
import Derived.Test.YtihhiolflbieaaaPx5
import Derived.Test.YtihhiolflbieaaaPx18
import Derived.Test.YtihhiolflbieaaaPx62
import Derived.Test.YtihhiolflbieaaaPx73
namespace Go.Proofs.Ytihhiolflbieaaa.C
open Go.RowKit Go.Proofs.Ytihhiolflbieaaa.P Go.Proofs.Ytihhiolflbieaaa.B Go.Proofs.YtihhiolflbieaaaW.PrintWords Go.Proofs.YtihhiolflbieaaaW.PrintLast Go.Proofs.YtihhiolflbieaaaW.PrintMore
set_option linter.unusedVariables false
set_option linter.unusedSimpArgs false

theorem Ev.succ {α : Type} {g : Nat → Option α} {r : α} (h : Ev (fun k => g (k + 1)) r) : Ev g r := Ev.step (fun _ => rfl) h

theorem bt_nat (s : ByteArray) (j : Nat) (h : j < s.data.toList.length) : bt s (j : Int) = ((s.data.toList[j]).toNat : Int) := by
  have h' : j < s.size := by rw [Array.length_toList] at h; exact h
  unfold bt
  rw [dif_pos (by rw [Int.toNat_natCast]; exact h')]
  simp only [Int.toNat_natCast, Array.getElem_toList]
  rfl
theorem size_len (s : ByteArray) : s.size = s.data.toList.length := by rw [Array.length_toList]; rfl

def dg (D : Int) (b : UInt8) : Bool := decide (48 ≤ (b.toNat : Int) ∧ (b.toNat : Int) < 48 + D)
def isT (D : Int) (s : ByteArray) : Bool := s.data.toList.all (dg D)
def isC (W D : Int) (s : ByteArray) : Bool := decide ((s.size : Int) = W) && isT D s

theorem drop_all {α : Type} (p : α → Bool) (l : List α) (j : Nat) (h : j < l.length) : (l.drop j).all p = (p l[j] && (l.drop (j + 1)).all p) := by
  rw [List.drop_eq_getElem_cons h, List.all_cons]

theorem isText_ev (W : Int) {D : Int} (hD : 2 ≤ D ∧ D ≤ 10) (s : ByteArray) (hs : s.size ≤ 140737488351232) : Ev (fun k => impl_Lock_isText.f k W D s) (isT D s) := by
  unfold impl_Lock_isText.f isT
  refine ev_down (g := fun j k => impl_Lock_isText.l0 k s (s.size : Int) (j : Int) W D) (R := fun j => (s.data.toList.drop j).all (dg D)) s.size ?_ ?_
  · intro j hj ih
    have hl : j < s.data.toList.length := by rw [← size_len]; exact hj
    have hb := bt_nat s j hl
    have hb2 : (s.data.toList[j]).toNat < 256 := UInt8.toNat_lt _
    refine Ev.succ ?_
    simp only [impl_Lock_isText.l0, if_pos (show (j : Int) < (s.size : Int) by omega), if_pos (show (0 : Int) ≤ (j : Int) by omega), within_eq, Option.bind_some,
      w64 (x := bt s j) (by omega) (by omega), w64 (x := 48 + D) (by omega) (by omega), w64 (x := 48 + D - 1) (by omega) (by omega), w64 (x := (j : Int) + 1) (by omega) (by omega)]
    rw [drop_all _ _ _ hl]
    by_cases h : 48 ≤ bt s j ∧ bt s j ≤ 48 + D - 1
    · have e : dg D s.data.toList[j] = true := by unfold dg; exact decide_eq_true (by omega)
      simp only [decide_eq_true h, if_true, e, Bool.true_and]
      exact ih
    · have e : dg D s.data.toList[j] = false := by unfold dg; exact decide_eq_false (by omega)
      simp only [decide_eq_false h, e, Bool.false_and, Bool.false_eq_true, if_false]
      exact Ev.now _
  · refine Ev.succ ?_
    simp only [impl_Lock_isText.l0, if_neg (show ¬ ((s.size : Nat) : Int) < (s.size : Int) by omega)]
    rw [List.drop_of_length_le (by rw [← size_len]; exact Nat.le_refl _)]
    exact Ev.now _

theorem isCode_ev {W D : Int} (hD : 2 ≤ D ∧ D ≤ 10) (s : ByteArray) (hs : s.size ≤ 140737488351232) : Ev (fun k => impl_Lock_isCode.f k W D s) (isC W D s) := by
  unfold impl_Lock_isCode.f isC
  by_cases h : (s.size : Int) = W
  · simp only [if_pos h, decide_eq_true h, Bool.true_and]
    exact Ev.bind (isText_ev W hD s hs) (Ev.now _)
  · simp only [if_neg h, decide_eq_false h, Bool.false_and]
    exact Ev.now _

theorem whCode_ev {W D : Int} (hD : 2 ≤ D ∧ D ≤ 10) (s : ByteArray) (hs : s.size ≤ 140737488351232) : Ev (fun k => spec_whCode.f k W D s) (isC W D s) := by
  unfold spec_whCode.f isC
  by_cases h : (s.size : Int) = W
  · simp only [if_pos h, decide_eq_true h, Bool.true_and]
    unfold isT
    refine ev_down (g := fun j k => spec_whCode.l0 k s (j : Int) W D) (R := fun j => (s.data.toList.drop j).all (dg D)) s.size ?_ ?_
    · intro j hj ih
      have hl : j < s.data.toList.length := by rw [← size_len]; exact hj
      have hb := bt_nat s j hl
      have hb2 : (s.data.toList[j]).toNat < 256 := UInt8.toNat_lt _
      refine Ev.succ ?_
      simp only [spec_whCode.l0, if_pos (show (j : Int) < (s.size : Int) by omega), if_pos (show (0 : Int) ≤ (j : Int) by omega), l1In_eq, Option.bind_some,
        w64 (x := bt s j) (by omega) (by omega), w64 (x := bt s j - 48) (by omega) (by omega), w64 (x := D - 1) (by omega) (by omega), w64 (x := (j : Int) + 1) (by omega) (by omega)]
      rw [drop_all _ _ _ hl]
      by_cases h : 0 ≤ bt s j - 48 ∧ bt s j - 48 ≤ D - 1
      · have e : dg D s.data.toList[j] = true := by unfold dg; exact decide_eq_true (by omega)
        simp only [decide_eq_true h, if_true, e, Bool.true_and]
        exact ih
      · have e : dg D s.data.toList[j] = false := by unfold dg; exact decide_eq_false (by omega)
        simp only [decide_eq_false h, e, Bool.false_and, Bool.false_eq_true, if_false]
        exact Ev.now _
    · refine Ev.succ ?_
      simp only [spec_whCode.l0, if_neg (show ¬ ((s.size : Nat) : Int) < (s.size : Int) by omega)]
      rw [List.drop_of_length_le (by rw [← size_len]; exact Nat.le_refl _)]
      exact Ev.now _
  · simp only [if_neg h, decide_eq_false h, Bool.false_and]
    exact Ev.now _

/-- A lock, and texts that are codes of it. -/
theorem has_ev (W D : Int) (l : List ByteArray) (hl : l.length ≤ 140737488351232) (hs : ∀ s ∈ l, s.size ≤ 140737488351232) : Ev (fun k => impl_has.f k W D l) (decide (LK W D) && l.all (isC W D)) := by
  unfold impl_has.f
  simp only [IsLock_eq, Option.bind_some]
  by_cases h : LK W D
  · simp only [decide_eq_true h, if_true, Bool.true_and]
    refine ev_down (g := fun j k => impl_has.l0 k l (l.length : Int) (j : Int) W D) (R := fun j => (l.drop j).all (isC W D)) l.length ?_ ?_
    · intro j hj ih
      refine Ev.succ ?_
      have e : rdOf ByteArray.empty l (j : Int) = l[j] := by unfold rdOf; rw [Int.toNat_natCast, List.getD_eq_getElem?_getD, List.getElem?_eq_getElem hj]; rfl
      simp only [impl_has.l0, if_pos (show (j : Int) < (l.length : Int) by omega), if_pos (show (0 : Int) ≤ (j : Int) by omega), w64 (x := (j : Int) + 1) (by omega) (by omega), e]
      refine Ev.bind (isCode_ev h.2.2 l[j] (hs _ (List.getElem_mem hj))) ?_
      rw [drop_all _ _ _ hj]
      by_cases c : isC W D l[j] = true
      · simp only [c, if_true, Bool.true_and]; exact ih
      · rw [Bool.not_eq_true] at c
        simp only [c, Bool.false_and, Bool.false_eq_true, if_false]
        exact Ev.now _
    · refine Ev.succ ?_
      simp only [impl_has.l0, if_neg (show ¬ ((l.length : Nat) : Int) < (l.length : Int) by omega)]
      rw [List.drop_of_length_le (Nat.le_refl _)]
      exact Ev.now _
  · simp only [decide_eq_false h, Bool.false_eq_true, if_false, Bool.false_and]
    exact Ev.now _

def digs (s : ByteArray) : List Int := s.data.toList.map fun b => ((b.toNat : Int) - 48) % 256
def txt (d : List Int) : ByteArray := strOfNums (d.map fun n => (48 + n) % 256)
/-- Digits of a lock. -/
def IsD (D : Int) (d : List Int) : Prop := ∀ x ∈ d, 0 ≤ x ∧ x < D

theorem digs_len (s : ByteArray) : (digs s).length = s.size := by unfold digs; rw [List.length_map, size_len]
theorem digs_get (s : ByteArray) (j : Nat) (h : j < (digs s).length) : (digs s)[j] = (bt s j - 48) % 256 := by
  unfold digs at h ⊢
  rw [List.length_map] at h
  rw [List.getElem_map, bt_nat s j h]
theorem rd_get (l : List Int) (j : Nat) (h : j < l.length) : rd l (j : Int) = l[j] := by
  unfold rd; rw [Int.toNat_natCast, List.getD_eq_getElem?_getD, List.getElem?_eq_getElem h]; rfl

theorem digs_isD {W D : Int} (hD : 2 ≤ D ∧ D ≤ 10) {s : ByteArray} (h : isT D s = true) : IsD D (digs s) := by
  intro x hx
  unfold isT at h
  rw [List.all_eq_true] at h
  obtain ⟨b, hb, rfl⟩ := List.mem_map.mp hx
  have := of_decide_eq_true (h b hb)
  omega
theorem isC_size {W D : Int} {s : ByteArray} (h : isC W D s = true) : (s.size : Int) = W := by
  unfold isC at h; rw [Bool.and_eq_true] at h; exact of_decide_eq_true h.1
theorem isC_isT {W D : Int} {s : ByteArray} (h : isC W D s = true) : isT D s = true := by
  unfold isC at h; rw [Bool.and_eq_true] at h; exact h.2

theorem txt_digs {D : Int} (hD : 2 ≤ D ∧ D ≤ 10) {s : ByteArray} (h : isT D s = true) : txt (digs s) = s := by
  unfold txt digs strOfNums
  rw [List.map_map, List.map_map]
  have : s.data.toList.map (((fun n : Int => UInt8.ofNat n.toNat) ∘ (fun n : Int => (48 + n) % 256)) ∘ fun b : UInt8 => ((b.toNat : Int) - 48) % 256) = s.data.toList := by
    conv => rhs; rw [← List.map_id s.data.toList]
    refine List.map_congr_left fun b hb => ?_
    unfold isT at h
    rw [List.all_eq_true] at h
    have := of_decide_eq_true (h b hb)
    simp only [Function.comp, id]
    rw [show (48 + ((b.toNat : Int) - 48) % 256) % 256 = (b.toNat : Int) by omega, Int.toNat_natCast, UInt8.ofNat_toNat]
  rw [this]
theorem digs_txt {d : List Int} (h : IsD 10 d) : digs (txt d) = d := by
  unfold txt digs strOfNums
  simp only
  rw [List.map_map, List.map_map]
  conv => rhs; rw [← List.map_id d]
  refine List.map_congr_left fun x hx => ?_
  have := h x hx
  simp only [Function.comp, id]
  rw [UInt8.toNat_ofNat']
  omega
theorem txt_size (d : List Int) : (txt d).size = d.length := by unfold txt; rw [strOfNums_size, List.length_map]
theorem txt_isT {D : Int} (hD : 2 ≤ D ∧ D ≤ 10) {d : List Int} (h : IsD D d) : isT D (txt d) = true := by
  unfold isT txt strOfNums
  simp only
  rw [List.all_eq_true]
  intro b hb
  rw [List.map_map] at hb
  obtain ⟨x, hx, rfl⟩ := List.mem_map.mp hb
  have := h x hx
  unfold dg
  refine decide_eq_true ?_
  simp only [Function.comp]
  rw [UInt8.toNat_ofNat']
  omega
theorem IsD.mono {D D' : Int} {d : List Int} (h : IsD D d) (hh : D ≤ D') : IsD D' d := fun x hx => ⟨(h x hx).1, by have := (h x hx).2; omega⟩
theorem whDigits_ev (s : ByteArray) (hs : s.size ≤ 10000000000) : Ev (fun k => spec_whDigits.f k s) (digs s) := by
  unfold spec_whDigits.f
  refine ev_loop (g := fun j k => spec_whDigits.l0 k s ((digs s).take j) (j : Int)) s.size ?_ ?_
  · intro j hj ih
    have hl : j < (digs s).length := by rw [digs_len]; exact hj
    refine Ev.succ ?_
    have ht : ((digs s).take j).length = j := by rw [List.length_take]; omega
    simp only [spec_whDigits.l0, if_pos (show (j : Int) < (s.size : Int) by omega), if_pos (show (0 : Int) ≤ (j : Int) by omega), ht, if_pos (show j < 17592186044416 by omega), w64 (x := (j : Int) + 1) (by omega) (by omega)]
    rw [List.take_succ_eq_append_getElem hl, digs_get s j hl] at ih
    exact ih
  · refine Ev.succ ?_
    simp only [spec_whDigits.l0, if_neg (show ¬ ((s.size : Nat) : Int) < (s.size : Int) by omega)]
    rw [List.take_of_length_le (by rw [digs_len]; exact Nat.le_refl _)]
    exact Ev.now _
theorem digits_ev (s : ByteArray) (hs : s.size ≤ 10000000000) : Ev (fun k => impl_digits.f k s) (digs s) := by
  unfold impl_digits.f
  refine ev_loop (g := fun j k => impl_digits.l0 k s ((digs s).take j) (s.size : Int) (j : Int)) s.size ?_ ?_
  · intro j hj ih
    have hl : j < (digs s).length := by rw [digs_len]; exact hj
    refine Ev.succ ?_
    have ht : ((digs s).take j).length = j := by rw [List.length_take]; omega
    simp only [impl_digits.l0, if_pos (show (j : Int) < (s.size : Int) by omega), if_pos (show (0 : Int) ≤ (j : Int) by omega), ht, if_pos (show j < 17592186044416 by omega), w64 (x := (j : Int) + 1) (by omega) (by omega)]
    rw [List.take_succ_eq_append_getElem hl, digs_get s j hl] at ih
    exact ih
  · refine Ev.succ ?_
    simp only [impl_digits.l0, if_neg (show ¬ ((s.size : Nat) : Int) < (s.size : Int) by omega)]
    rw [List.take_of_length_le (by rw [digs_len]; exact Nat.le_refl _)]
    exact Ev.now _

theorem strOfNums_append (a b : List Int) : strOfNums a ++ strOfNums b = strOfNums (a ++ b) := by
  apply ByteArray.ext
  rw [ByteArray.data_append]
  unfold strOfNums
  simp only [List.map_append, List.append_toArray]
theorem txt_append (a b : List Int) : txt a ++ txt b = txt (a ++ b) := by unfold txt; rw [strOfNums_append, List.map_append]

theorem text_ev (l : List Int) (hl : l.length ≤ 10000000000) (h : IsD 10 l) : Ev (fun k => impl_text.f k l) (txt l) := by
  unfold impl_text.f
  refine ev_loop (g := fun j k => impl_text.l0 k ((l.map fun n => (48 + n) % 256).take j) l (l.length : Int) (j : Int)) l.length ?_ ?_
  · intro j hj ih
    have hm : j < (l.map fun n => (48 + n) % 256).length := by rw [List.length_map]; exact hj
    have hx := h _ (List.getElem_mem hj)
    have hr := rd_get l j hj
    refine Ev.succ ?_
    have ht : ((l.map fun n => (48 + n) % 256).take j).length = j := by rw [List.length_take]; omega
    simp only [impl_text.l0, if_pos (show (j : Int) < (l.length : Int) by omega), if_pos (show (0 : Int) ≤ (j : Int) by omega), ht, if_pos (show j < 140737488355328 by omega), w64 (x := (j : Int) + 1) (by omega) (by omega), hr, w64 (x := 48 + l[j]) (by omega) (by omega)]
    rw [List.take_succ_eq_append_getElem hm, List.getElem_map] at ih
    exact ih
  · refine Ev.succ ?_
    simp only [impl_text.l0, if_neg (show ¬ ((l.length : Nat) : Int) < (l.length : Int) by omega)]
    rw [List.take_of_length_le (by rw [List.length_map]; exact Nat.le_refl _)]
    exact Ev.now _

theorem l1Num_ev {n : Int} (h : 0 ≤ n ∧ n < 10) : Ev (fun k => spec_l1Num.f k n) (txt [n]) := by
  refine Ev.succ ?_
  simp only [spec_l1Num.f, if_pos h.2, w64 (x := 48 + n) (by omega) (by omega)]
  exact Ev.now _

theorem whText_ev (l : List Int) (hl : l.length ≤ 10000000000) (h : IsD 10 l) : Ev (fun k => spec_whText.f k l) (txt l) := by
  unfold spec_whText.f
  refine ev_loop (g := fun j k => spec_whText.l0 k (txt (l.take j)) l (l.length : Int) (j : Int)) l.length ?_ ?_
  · intro j hj ih
    have hx := h _ (List.getElem_mem hj)
    have hr := rd_get l j hj
    refine Ev.succ ?_
    have ht : (l.take j).length = j := by rw [List.length_take]; omega
    simp only [spec_whText.l0, if_pos (show (j : Int) < (l.length : Int) by omega), if_pos (show (0 : Int) ≤ (j : Int) by omega), w64 (x := (j : Int) + 1) (by omega) (by omega), hr]
    refine Ev.bind (l1Num_ev hx) ?_
    simp only [txt_size, ht, List.length_singleton, if_pos (show j + 1 ≤ 9223372036854775807 by omega), txt_append]
    rw [List.take_succ_eq_append_getElem hj] at ih
    exact ih
  · refine Ev.succ ?_
    simp only [spec_whText.l0, if_neg (show ¬ ((l.length : Nat) : Int) < (l.length : Int) by omega)]
    rw [List.take_of_length_le (Nat.le_refl _)]
    exact Ev.now _

end Go.Proofs.Ytihhiolflbieaaa.C
