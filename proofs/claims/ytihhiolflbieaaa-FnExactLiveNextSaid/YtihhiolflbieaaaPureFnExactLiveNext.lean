/- The plain statement behind the law FnExactLiveNext: whatever the input, the law's Lean function answers true. Conditions: none but the sizes that the row gives. -/
import Derived.Test.YtihhiolflbieaaaPx0
import Derived.Lib.IndexMore
import Derived.Test.YtihhiolflbieaaaPx1
import Derived.Test.YtihhiolflbieaaaPx2
import Derived.Test.YtihhiolflbieaaaPx5
import Derived.Test.YtihhiolflbieaaaPx18
import Derived.Test.YtihhiolflbieaaaPx28
import Derived.Test.YtihhiolflbieaaaPx32
import Derived.Test.YtihhiolflbieaaaPx49
import Derived.Test.YtihhiolflbieaaaPx62
import Derived.Test.YtihhiolflbieaaaPx71
import Derived.Test.YtihhiolflbieaaaPx73
import Derived.Test.YtihhiolflbieaaaPx125
import Derived.Test.YtihhiolflbieaaaPx128
import Derived.Test.YtihhiolflbieaaaPx151
namespace Go.Proofs.Ytihhiolflbieaaa.B
open Go.RowKit Go.Proofs.Ytihhiolflbieaaa.P Go.Proofs.YtihhiolflbieaaaW.PrintWords Go.Proofs.YtihhiolflbieaaaW.PrintLast Go.Proofs.YtihhiolflbieaaaW.PrintMore
set_option linter.unusedVariables false
set_option linter.unusedSimpArgs false
theorem w64 {x : Int} (h0 : -9223372036854775808 ≤ x) (h1 : x ≤ 9223372036854775807) : wrap64 x = x := by unfold wrap64; omega
theorem ev_loop {α : Type} {g : Nat → Nat → Option α} {r : α} (n : Nat) (step : ∀ j, j < n → Ev (g (j + 1)) r → Ev (g j) r) (fin : Ev (g n) r) : Ev (g 0) r := by
  have : ∀ d, d ≤ n → Ev (g (n - d)) r := by
    intro d
    induction d with
    | zero => intro _; exact fin
    | succ d ih =>
      intro hd
      have := step (n - (d + 1)) (by omega)
      rw [show n - (d + 1) + 1 = n - d by omega] at this
      exact this (ih (by omega))
  have := this n (Nat.le_refl n)
  rwa [Nat.sub_self] at this
/-- Behind the loop's rounds the answer may differ from round to round (an early return). -/
theorem ev_down {α : Type} {g : Nat → Nat → Option α} {R : Nat → α} (n : Nat) (step : ∀ j, j < n → Ev (g (j + 1)) (R (j + 1)) → Ev (g j) (R j)) (fin : Ev (g n) (R n)) : Ev (g 0) (R 0) := by
  have : ∀ d, d ≤ n → Ev (g (n - d)) (R (n - d)) := by
    intro d
    induction d with
    | zero => intro _; exact fin
    | succ d ih =>
      intro hd
      have := step (n - (d + 1)) (by omega)
      rw [show n - (d + 1) + 1 = n - d by omega] at this
      exact this (ih (by omega))
  have := this n (Nat.le_refl n)
  rwa [Nat.sub_self] at this
theorem ev_ex {g : Nat → Option Bool} (h : Ev g true) : ∃ k, g k = some true := h.rounds
def LK (W D : Int) : Prop := 1 ≤ W ∧ W ≤ 6 ∧ 2 ≤ D ∧ D ≤ 10
instance (W D : Int) : Decidable (LK W D) := by unfold LK; infer_instance
theorem for_good {p : Int → Int → Bool} (h : ((List.range 6).all fun i => (List.range 9).all fun j => p (i + 1) (j + 2)) = true) {W D : Int} (hg : LK W D) : p W D = true := by
  obtain ⟨h1, h2, h3, h4⟩ := hg
  rw [List.all_eq_true] at h
  have a := h (W.toNat - 1) (List.mem_range.mpr (by omega))
  rw [List.all_eq_true] at a
  have b := a (D.toNat - 2) (List.mem_range.mpr (by omega))
  rw [show ((W.toNat - 1 : Nat) : Int) + 1 = W by omega, show ((D.toNat - 2 : Nat) : Int) + 2 = D by omega] at b
  exact b
theorem l1In_eq (a b c : Int) : spec_l1In.f a b c = some (decide (b ≤ a ∧ a ≤ c)) := by
  unfold spec_l1In.f
  by_cases h : a ≥ b
  · rw [if_pos h]; congr 1; rw [decide_eq_decide]; omega
  · rw [if_neg h]; congr 1; symm; rw [decide_eq_false_iff_not]; omega
theorem within_eq (a b c : Int) : impl_within.f a b c = some (decide (b ≤ a ∧ a ≤ c)) := by
  unfold impl_within.f
  by_cases h : b ≤ a
  · rw [if_pos h]; congr 1; rw [decide_eq_decide]; omega
  · rw [if_neg h]; congr 1; symm; rw [decide_eq_false_iff_not]; omega
theorem whGood_eq (W D : Int) : spec_whGood.f W D = some (decide (LK W D)) := by
  unfold spec_whGood.f
  rw [l1In_eq, Option.bind_some, l1In_eq, Option.bind_some]
  by_cases h : 1 ≤ W ∧ W ≤ 6
  · rw [if_pos (decide_eq_true h)]; congr 1; rw [decide_eq_decide]; unfold LK; omega
  · rw [if_neg (by rw [decide_eq_false h]; decide)]; congr 1; symm; rw [decide_eq_false_iff_not]; unfold LK; omega
theorem IsLock_eq (W D : Int) : impl_IsLock.f W D = some (decide (LK W D)) := by
  unfold impl_IsLock.f
  rw [within_eq, Option.bind_some, within_eq, Option.bind_some]
  by_cases h : 1 ≤ W ∧ W ≤ 6
  · rw [if_pos (decide_eq_true h)]; congr 1; rw [decide_eq_decide]; unfold LK; omega
  · rw [if_neg (by rw [decide_eq_false h]; decide)]; congr 1; symm; rw [decide_eq_false_iff_not]; unfold LK; omega
def cnt (W D : Int) : Int := D ^ W.toNat
theorem whCount_ev {W D : Int} (h : LK W D) : Ev (fun k => spec_whCount.f k W D) (cnt W D) := by
  have := for_good (p := fun W D => decide (spec_whCount.f 8 W D = some (cnt W D))) (by decide +kernel) h
  exact Ev.of (fun k => spec_whCount.mono _ _ k) (of_decide_eq_true this)
theorem count_ev {W D : Int} (h : LK W D) : Ev (fun k => impl_Lock_count.f k W D) (cnt W D) := by
  have := for_good (p := fun W D => decide (impl_Lock_count.f 8 W D = some (cnt W D))) (by decide +kernel) h
  exact Ev.of (fun k => impl_Lock_count.mono _ _ k) (of_decide_eq_true this)
theorem isSmall_ev (W D m : Int) : Ev (fun k => impl_isSmall.f k W D m) (decide (LK W D ∧ cnt W D ≤ m)) := by
  unfold impl_isSmall.f
  refine Ev.congr (f := fun k => if decide (LK W D) = true then ((impl_Lock_count.f k W D).bind fun t => some (decide (t ≤ m))) else some false) (fun k => by rw [IsLock_eq, Option.bind_some]) ?_
  by_cases h : LK W D
  · refine Ev.congr (f := fun k => (impl_Lock_count.f k W D).bind fun t => some (decide (t ≤ m))) (fun k => by rw [if_pos (decide_eq_true h)]) ?_
    refine Ev.bind (count_ev h) ?_
    rw [show decide (LK W D ∧ cnt W D ≤ m) = decide (cnt W D ≤ m) by rw [decide_eq_decide]; simp [h]]
    exact Ev.now _
  · rw [show decide (LK W D ∧ cnt W D ≤ m) = false by rw [decide_eq_false_iff_not]; simp [h]]
    exact Ev.congr (f := fun _ => some false) (fun k => by rw [if_neg (by simp [h])]) (Ev.now _)
end Go.Proofs.Ytihhiolflbieaaa.B
namespace Go.Proofs.Ytihhiolflbieaaa.C
open Go.RowKit Go.Proofs.Ytihhiolflbieaaa.P Go.Proofs.Ytihhiolflbieaaa.B Go.Proofs.YtihhiolflbieaaaW.PrintWords Go.Proofs.YtihhiolflbieaaaW.PrintLast Go.Proofs.YtihhiolflbieaaaW.PrintMore
set_option linter.unusedVariables false
set_option linter.unusedSimpArgs false
theorem Ev.succ {α : Type} {g : Nat → Option α} {r : α} (h : Ev (fun k => g (k + 1)) r) : Ev g r := Ev.step (fun _ => rfl) h
theorem bt_nat (s : ByteArray) (j : Nat) (h : j < s.data.toList.length) : bt s (j : Int) = ((s.data.toList[j]).toNat : Int) := by
  have h' : j < s.size := by rw [Array.length_toList] at h; exact h
  unfold bt
  rw [dif_pos (by rw [Int.toNat_natCast]; exact h')]
  simp only [Int.toNat_natCast, Array.getElem_toList]
  rfl
theorem size_len (s : ByteArray) : s.size = s.data.toList.length := by rw [Array.length_toList]; rfl
def dg (D : Int) (b : UInt8) : Bool := decide (48 ≤ (b.toNat : Int) ∧ (b.toNat : Int) < 48 + D)
def isT (D : Int) (s : ByteArray) : Bool := s.data.toList.all (dg D)
def isC (W D : Int) (s : ByteArray) : Bool := decide ((s.size : Int) = W) && isT D s
theorem drop_all {α : Type} (p : α → Bool) (l : List α) (j : Nat) (h : j < l.length) : (l.drop j).all p = (p l[j] && (l.drop (j + 1)).all p) := by
  rw [List.drop_eq_getElem_cons h, List.all_cons]
theorem isText_ev (W : Int) {D : Int} (hD : 2 ≤ D ∧ D ≤ 10) (s : ByteArray) (hs : s.size ≤ 140737488351232) : Ev (fun k => impl_Lock_isText.f k W D s) (isT D s) := by
  unfold impl_Lock_isText.f isT
  refine ev_down (g := fun j k => impl_Lock_isText.l0 k s (s.size : Int) (j : Int) W D) (R := fun j => (s.data.toList.drop j).all (dg D)) s.size ?_ ?_
  · intro j hj ih
    have hl : j < s.data.toList.length := by rw [← size_len]; exact hj
    have hb := bt_nat s j hl
    have hb2 : (s.data.toList[j]).toNat < 256 := UInt8.toNat_lt _
    refine Ev.succ ?_
    simp only [impl_Lock_isText.l0, if_pos (show (j : Int) < (s.size : Int) by omega), if_pos (show (0 : Int) ≤ (j : Int) by omega), within_eq, Option.bind_some,
      w64 (x := bt s j) (by omega) (by omega), w64 (x := 48 + D) (by omega) (by omega), w64 (x := 48 + D - 1) (by omega) (by omega), w64 (x := (j : Int) + 1) (by omega) (by omega)]
    rw [drop_all _ _ _ hl]
    by_cases h : 48 ≤ bt s j ∧ bt s j ≤ 48 + D - 1
    · have e : dg D s.data.toList[j] = true := by unfold dg; exact decide_eq_true (by omega)
      simp only [decide_eq_true h, if_true, e, Bool.true_and]
      exact ih
    · have e : dg D s.data.toList[j] = false := by unfold dg; exact decide_eq_false (by omega)
      simp only [decide_eq_false h, e, Bool.false_and, Bool.false_eq_true, if_false]
      exact Ev.now _
  · refine Ev.succ ?_
    simp only [impl_Lock_isText.l0, if_neg (show ¬ ((s.size : Nat) : Int) < (s.size : Int) by omega)]
    rw [List.drop_of_length_le (by rw [← size_len]; exact Nat.le_refl _)]
    exact Ev.now _
theorem isCode_ev {W D : Int} (hD : 2 ≤ D ∧ D ≤ 10) (s : ByteArray) (hs : s.size ≤ 140737488351232) : Ev (fun k => impl_Lock_isCode.f k W D s) (isC W D s) := by
  unfold impl_Lock_isCode.f isC
  by_cases h : (s.size : Int) = W
  · simp only [if_pos h, decide_eq_true h, Bool.true_and]
    exact Ev.bind (isText_ev W hD s hs) (Ev.now _)
  · simp only [if_neg h, decide_eq_false h, Bool.false_and]
    exact Ev.now _
theorem whCode_ev {W D : Int} (hD : 2 ≤ D ∧ D ≤ 10) (s : ByteArray) (hs : s.size ≤ 140737488351232) : Ev (fun k => spec_whCode.f k W D s) (isC W D s) := by
  unfold spec_whCode.f isC
  by_cases h : (s.size : Int) = W
  · simp only [if_pos h, decide_eq_true h, Bool.true_and]
    unfold isT
    refine ev_down (g := fun j k => spec_whCode.l0 k s (j : Int) W D) (R := fun j => (s.data.toList.drop j).all (dg D)) s.size ?_ ?_
    · intro j hj ih
      have hl : j < s.data.toList.length := by rw [← size_len]; exact hj
      have hb := bt_nat s j hl
      have hb2 : (s.data.toList[j]).toNat < 256 := UInt8.toNat_lt _
      refine Ev.succ ?_
      simp only [spec_whCode.l0, if_pos (show (j : Int) < (s.size : Int) by omega), if_pos (show (0 : Int) ≤ (j : Int) by omega), l1In_eq, Option.bind_some,
        w64 (x := bt s j) (by omega) (by omega), w64 (x := bt s j - 48) (by omega) (by omega), w64 (x := D - 1) (by omega) (by omega), w64 (x := (j : Int) + 1) (by omega) (by omega)]
      rw [drop_all _ _ _ hl]
      by_cases h : 0 ≤ bt s j - 48 ∧ bt s j - 48 ≤ D - 1
      · have e : dg D s.data.toList[j] = true := by unfold dg; exact decide_eq_true (by omega)
        simp only [decide_eq_true h, if_true, e, Bool.true_and]
        exact ih
      · have e : dg D s.data.toList[j] = false := by unfold dg; exact decide_eq_false (by omega)
        simp only [decide_eq_false h, e, Bool.false_and, Bool.false_eq_true, if_false]
        exact Ev.now _
    · refine Ev.succ ?_
      simp only [spec_whCode.l0, if_neg (show ¬ ((s.size : Nat) : Int) < (s.size : Int) by omega)]
      rw [List.drop_of_length_le (by rw [← size_len]; exact Nat.le_refl _)]
      exact Ev.now _
  · simp only [if_neg h, decide_eq_false h, Bool.false_and]
    exact Ev.now _
theorem whAsked_ev (W D : Int) (s : ByteArray) (hs : s.size ≤ 140737488351232) : Ev (fun k => spec_whAsked.f k W D s) (decide (LK W D) && isC W D s) := by
  unfold spec_whAsked.f
  simp only [whGood_eq, Option.bind_some]
  by_cases h : LK W D
  · simp only [decide_eq_true h, if_true, Bool.true_and]
    exact Ev.bind (whCode_ev h.2.2 s hs) (Ev.now _)
  · simp only [decide_eq_false h, Bool.false_eq_true, if_false, Bool.false_and]
    exact Ev.now _
/-- A lock, and texts that are codes of it. -/
theorem has_ev (W D : Int) (l : List ByteArray) (hl : l.length ≤ 140737488351232) (hs : ∀ s ∈ l, s.size ≤ 140737488351232) : Ev (fun k => impl_has.f k W D l) (decide (LK W D) && l.all (isC W D)) := by
  unfold impl_has.f
  simp only [IsLock_eq, Option.bind_some]
  by_cases h : LK W D
  · simp only [decide_eq_true h, if_true, Bool.true_and]
    refine ev_down (g := fun j k => impl_has.l0 k l (l.length : Int) (j : Int) W D) (R := fun j => (l.drop j).all (isC W D)) l.length ?_ ?_
    · intro j hj ih
      refine Ev.succ ?_
      have e : rdOf ByteArray.empty l (j : Int) = l[j] := by unfold rdOf; rw [Int.toNat_natCast, List.getD_eq_getElem?_getD, List.getElem?_eq_getElem hj]; rfl
      simp only [impl_has.l0, if_pos (show (j : Int) < (l.length : Int) by omega), if_pos (show (0 : Int) ≤ (j : Int) by omega), w64 (x := (j : Int) + 1) (by omega) (by omega), e]
      refine Ev.bind (isCode_ev h.2.2 l[j] (hs _ (List.getElem_mem hj))) ?_
      rw [drop_all _ _ _ hj]
      by_cases c : isC W D l[j] = true
      · simp only [c, if_true, Bool.true_and]; exact ih
      · rw [Bool.not_eq_true] at c
        simp only [c, Bool.false_and, Bool.false_eq_true, if_false]
        exact Ev.now _
    · refine Ev.succ ?_
      simp only [impl_has.l0, if_neg (show ¬ ((l.length : Nat) : Int) < (l.length : Int) by omega)]
      rw [List.drop_of_length_le (Nat.le_refl _)]
      exact Ev.now _
  · simp only [decide_eq_false h, Bool.false_eq_true, if_false, Bool.false_and]
    exact Ev.now _
def digs (s : ByteArray) : List Int := s.data.toList.map fun b => ((b.toNat : Int) - 48) % 256
def txt (d : List Int) : ByteArray := strOfNums (d.map fun n => (48 + n) % 256)
/-- Digits of a lock. -/
def IsD (D : Int) (d : List Int) : Prop := ∀ x ∈ d, 0 ≤ x ∧ x < D
theorem digs_len (s : ByteArray) : (digs s).length = s.size := by unfold digs; rw [List.length_map, size_len]
theorem digs_get (s : ByteArray) (j : Nat) (h : j < (digs s).length) : (digs s)[j] = (bt s j - 48) % 256 := by
  unfold digs at h ⊢
  rw [List.length_map] at h
  rw [List.getElem_map, bt_nat s j h]
theorem rd_get (l : List Int) (j : Nat) (h : j < l.length) : rd l (j : Int) = l[j] := by
  unfold rd; rw [Int.toNat_natCast, List.getD_eq_getElem?_getD, List.getElem?_eq_getElem h]; rfl
theorem digs_isD {W D : Int} (hD : 2 ≤ D ∧ D ≤ 10) {s : ByteArray} (h : isT D s = true) : IsD D (digs s) := by
  intro x hx
  unfold isT at h
  rw [List.all_eq_true] at h
  obtain ⟨b, hb, rfl⟩ := List.mem_map.mp hx
  have := of_decide_eq_true (h b hb)
  omega
theorem isC_size {W D : Int} {s : ByteArray} (h : isC W D s = true) : (s.size : Int) = W := by
  unfold isC at h; rw [Bool.and_eq_true] at h; exact of_decide_eq_true h.1
theorem isC_isT {W D : Int} {s : ByteArray} (h : isC W D s = true) : isT D s = true := by
  unfold isC at h; rw [Bool.and_eq_true] at h; exact h.2
theorem txt_digs {D : Int} (hD : 2 ≤ D ∧ D ≤ 10) {s : ByteArray} (h : isT D s = true) : txt (digs s) = s := by
  unfold txt digs strOfNums
  rw [List.map_map, List.map_map]
  have : s.data.toList.map (((fun n : Int => UInt8.ofNat n.toNat) ∘ (fun n : Int => (48 + n) % 256)) ∘ fun b : UInt8 => ((b.toNat : Int) - 48) % 256) = s.data.toList := by
    conv => rhs; rw [← List.map_id s.data.toList]
    refine List.map_congr_left fun b hb => ?_
    unfold isT at h
    rw [List.all_eq_true] at h
    have := of_decide_eq_true (h b hb)
    simp only [Function.comp, id]
    rw [show (48 + ((b.toNat : Int) - 48) % 256) % 256 = (b.toNat : Int) by omega, Int.toNat_natCast, UInt8.ofNat_toNat]
  rw [this]
theorem digs_txt {d : List Int} (h : IsD 10 d) : digs (txt d) = d := by
  unfold txt digs strOfNums
  simp only
  rw [List.map_map, List.map_map]
  conv => rhs; rw [← List.map_id d]
  refine List.map_congr_left fun x hx => ?_
  have := h x hx
  simp only [Function.comp, id]
  rw [UInt8.toNat_ofNat']
  omega
theorem txt_size (d : List Int) : (txt d).size = d.length := by unfold txt; rw [strOfNums_size, List.length_map]
theorem IsD.mono {D D' : Int} {d : List Int} (h : IsD D d) (hh : D ≤ D') : IsD D' d := fun x hx => ⟨(h x hx).1, by have := (h x hx).2; omega⟩
theorem whDigits_ev (s : ByteArray) (hs : s.size ≤ 10000000000) : Ev (fun k => spec_whDigits.f k s) (digs s) := by
  unfold spec_whDigits.f
  refine ev_loop (g := fun j k => spec_whDigits.l0 k s ((digs s).take j) (j : Int)) s.size ?_ ?_
  · intro j hj ih
    have hl : j < (digs s).length := by rw [digs_len]; exact hj
    refine Ev.succ ?_
    have ht : ((digs s).take j).length = j := by rw [List.length_take]; omega
    simp only [spec_whDigits.l0, if_pos (show (j : Int) < (s.size : Int) by omega), if_pos (show (0 : Int) ≤ (j : Int) by omega), ht, if_pos (show j < 17592186044416 by omega), w64 (x := (j : Int) + 1) (by omega) (by omega)]
    rw [List.take_succ_eq_append_getElem hl, digs_get s j hl] at ih
    exact ih
  · refine Ev.succ ?_
    simp only [spec_whDigits.l0, if_neg (show ¬ ((s.size : Nat) : Int) < (s.size : Int) by omega)]
    rw [List.take_of_length_le (by rw [digs_len]; exact Nat.le_refl _)]
    exact Ev.now _
theorem digits_ev (s : ByteArray) (hs : s.size ≤ 10000000000) : Ev (fun k => impl_digits.f k s) (digs s) := by
  unfold impl_digits.f
  refine ev_loop (g := fun j k => impl_digits.l0 k s ((digs s).take j) (s.size : Int) (j : Int)) s.size ?_ ?_
  · intro j hj ih
    have hl : j < (digs s).length := by rw [digs_len]; exact hj
    refine Ev.succ ?_
    have ht : ((digs s).take j).length = j := by rw [List.length_take]; omega
    simp only [impl_digits.l0, if_pos (show (j : Int) < (s.size : Int) by omega), if_pos (show (0 : Int) ≤ (j : Int) by omega), ht, if_pos (show j < 17592186044416 by omega), w64 (x := (j : Int) + 1) (by omega) (by omega)]
    rw [List.take_succ_eq_append_getElem hl, digs_get s j hl] at ih
    exact ih
  · refine Ev.succ ?_
    simp only [impl_digits.l0, if_neg (show ¬ ((s.size : Nat) : Int) < (s.size : Int) by omega)]
    rw [List.take_of_length_le (by rw [digs_len]; exact Nat.le_refl _)]
    exact Ev.now _
theorem strOfNums_append (a b : List Int) : strOfNums a ++ strOfNums b = strOfNums (a ++ b) := by
  apply ByteArray.ext
  rw [ByteArray.data_append]
  unfold strOfNums
  simp only [List.map_append, List.append_toArray]
theorem txt_append (a b : List Int) : txt a ++ txt b = txt (a ++ b) := by unfold txt; rw [strOfNums_append, List.map_append]
theorem text_ev (l : List Int) (hl : l.length ≤ 10000000000) (h : IsD 10 l) : Ev (fun k => impl_text.f k l) (txt l) := by
  unfold impl_text.f
  refine ev_loop (g := fun j k => impl_text.l0 k ((l.map fun n => (48 + n) % 256).take j) l (l.length : Int) (j : Int)) l.length ?_ ?_
  · intro j hj ih
    have hm : j < (l.map fun n => (48 + n) % 256).length := by rw [List.length_map]; exact hj
    have hx := h _ (List.getElem_mem hj)
    have hr := rd_get l j hj
    refine Ev.succ ?_
    have ht : ((l.map fun n => (48 + n) % 256).take j).length = j := by rw [List.length_take]; omega
    simp only [impl_text.l0, if_pos (show (j : Int) < (l.length : Int) by omega), if_pos (show (0 : Int) ≤ (j : Int) by omega), ht, if_pos (show j < 140737488355328 by omega), w64 (x := (j : Int) + 1) (by omega) (by omega), hr, w64 (x := 48 + l[j]) (by omega) (by omega)]
    rw [List.take_succ_eq_append_getElem hm, List.getElem_map] at ih
    exact ih
  · refine Ev.succ ?_
    simp only [impl_text.l0, if_neg (show ¬ ((l.length : Nat) : Int) < (l.length : Int) by omega)]
    rw [List.take_of_length_le (by rw [List.length_map]; exact Nat.le_refl _)]
    exact Ev.now _
theorem l1Num_ev {n : Int} (h : 0 ≤ n ∧ n < 10) : Ev (fun k => spec_l1Num.f k n) (txt [n]) := by
  refine Ev.succ ?_
  simp only [spec_l1Num.f, if_pos h.2, w64 (x := 48 + n) (by omega) (by omega)]
  exact Ev.now _
theorem whText_ev (l : List Int) (hl : l.length ≤ 10000000000) (h : IsD 10 l) : Ev (fun k => spec_whText.f k l) (txt l) := by
  unfold spec_whText.f
  refine ev_loop (g := fun j k => spec_whText.l0 k (txt (l.take j)) l (l.length : Int) (j : Int)) l.length ?_ ?_
  · intro j hj ih
    have hx := h _ (List.getElem_mem hj)
    have hr := rd_get l j hj
    refine Ev.succ ?_
    have ht : (l.take j).length = j := by rw [List.length_take]; omega
    simp only [spec_whText.l0, if_pos (show (j : Int) < (l.length : Int) by omega), if_pos (show (0 : Int) ≤ (j : Int) by omega), w64 (x := (j : Int) + 1) (by omega) (by omega), hr]
    refine Ev.bind (l1Num_ev hx) ?_
    simp only [txt_size, ht, List.length_singleton, if_pos (show j + 1 ≤ 9223372036854775807 by omega), txt_append]
    rw [List.take_succ_eq_append_getElem hj] at ih
    exact ih
  · refine Ev.succ ?_
    simp only [spec_whText.l0, if_neg (show ¬ ((l.length : Nat) : Int) < (l.length : Int) by omega)]
    rw [List.take_of_length_le (Nat.le_refl _)]
    exact Ev.now _
end Go.Proofs.Ytihhiolflbieaaa.C
namespace Go.Proofs.Ytihhiolflbieaaa.L
open Go.Proofs.Ytihhiolflbieaaa.C
set_option linter.unusedVariables false
set_option linter.unusedSimpArgs false
theorem IsD.cons {D x : Int} {xs : List Int} (h : IsD D (x :: xs)) : (0 ≤ x ∧ x < D) ∧ IsD D xs := ⟨h x (List.mem_cons_self ..), fun y hy => h y (List.mem_cons_of_mem _ hy)⟩
theorem IsD.nil {D : Int} : IsD D [] := fun y hy => by cases hy
/-- b is a with one digit turned by 1 or -1. -/
def Nx (D : Int) : List Int → List Int → Prop
  | x :: xs, y :: ys => (x = y ∧ Nx D xs ys) ∨ (xs = ys ∧ x ≠ y ∧ (y = (x + 1) % D ∨ y = (x - 1) % D))
  | _, _ => False
theorem Nx.symm {D : Int} : ∀ {a b : List Int}, IsD D a → IsD D b → Nx D a b → Nx D b a
  | [], [], _, _, h => h
  | [], _ :: _, _, _, h => h
  | _ :: _, [], _, _, h => h
  | x :: xs, y :: ys, ha, hb, h => by
    obtain ⟨⟨a0, a1⟩, ha'⟩ := IsD.cons ha
    obtain ⟨⟨b0, b1⟩, hb'⟩ := IsD.cons hb
    rcases h with ⟨e, h⟩ | ⟨rfl, hne, h⟩
    · exact .inl ⟨e.symm, Nx.symm ha' hb' h⟩
    · refine .inr ⟨rfl, fun e => hne e.symm, ?_⟩
      rcases h with h | h
      · right; rw [h, Int.emod_sub_emod, show x + 1 - 1 = x by omega, Int.emod_eq_of_lt a0 a1]
      · left; rw [h, Int.emod_add_emod, show x - 1 + 1 = x by omega, Int.emod_eq_of_lt a0 a1]
/-- Around: the code with the next number has, in the round order, one digit turned by 1. -/
def N1 (D : Int) : List Int → List Int → Prop
  | x :: xs, y :: ys => (x = y ∧ N1 D xs ys) ∨ (xs = ys ∧ y = (x + 1) % D)
  | _, _ => False
theorem N1.nx {D : Int} (hD : 1 < D) : ∀ {a b : List Int}, IsD D a → N1 D a b → Nx D a b
  | [], [], _, h => h
  | [], _ :: _, _, h => h
  | _ :: _, [], _, h => h
  | x :: xs, y :: ys, ha, h => by
    obtain ⟨⟨a0, a1⟩, ha⟩ := IsD.cons ha
    rcases h with ⟨rfl, h⟩ | ⟨rfl, h⟩
    · exact .inl ⟨rfl, N1.nx hD ha h⟩
    · refine .inr ⟨rfl, ?_, .inl h⟩
      intro e
      by_cases hx : x + 1 < D
      · rw [Int.emod_eq_of_lt (by omega) hx] at h; omega
      · rw [show x + 1 = 0 + 1 * D by omega, Int.add_mul_emod_self_right, Int.zero_emod] at h; omega
end Go.Proofs.Ytihhiolflbieaaa.L
namespace Go.Proofs.Ytihhiolflbieaaa.A
open Go.RowKit Go.Proofs.Ytihhiolflbieaaa.P Go.Proofs.Ytihhiolflbieaaa.B Go.Proofs.Ytihhiolflbieaaa.C Go.Proofs.Ytihhiolflbieaaa.L Go.Proofs.YtihhiolflbieaaaW.PrintWords Go.Proofs.YtihhiolflbieaaaW.PrintLast Go.Proofs.YtihhiolflbieaaaW.PrintMore
set_option linter.unusedVariables false
set_option linter.unusedSimpArgs false
theorem tm {a D : Int} (hD : 0 < D) : Int.tmod (Int.tmod a D + D) D = a % D ∧ 0 < Int.tmod a D + D ∧ Int.tmod a D + D < 2 * D := by
  have key : ∃ t q, Int.tmod a D = t ∧ -D < t ∧ t < D ∧ a = t + q * D := by
    by_cases h : 0 ≤ a
    · refine ⟨a % D, a / D, Int.tmod_eq_emod_of_nonneg h, ?_, Int.emod_lt_of_pos _ hD, ?_⟩
      · have := Int.emod_nonneg a (b := D) (by omega); omega
      · rw [Int.mul_comm, Int.emod_add_mul_ediv]
    · refine ⟨-((-a) % D), -((-a) / D), ?_, ?_, ?_, ?_⟩
      · have e := Int.neg_tmod (a := -a) (b := D)
        rw [Int.neg_neg] at e
        rw [e, Int.tmod_eq_emod_of_nonneg (by omega)]
      · have := Int.emod_lt_of_pos (-a) hD; omega
      · have := Int.emod_nonneg (-a) (b := D) (by omega); omega
      · have := Int.emod_add_mul_ediv (-a) D
        rw [Int.neg_mul, Int.mul_comm]; omega
  obtain ⟨t, q, ht, h1, h2, ha⟩ := key
  refine ⟨?_, by omega, by omega⟩
  rw [ht, Int.tmod_eq_emod_of_nonneg (by omega), Int.add_emod_right, ha, Int.add_mul_emod_self_right]
theorem around_eq {a D : Int} (hD : 1 ≤ D ∧ D ≤ 1000) : impl_around.f a D = some (a % D) := by
  unfold impl_around.f
  obtain ⟨h1, h2, h3⟩ := tm (a := a) (show 0 < D by omega)
  rw [if_neg (by omega), w64 (by omega) (by omega), h1]
theorem l1Mod_eq {a D : Int} (hD : 1 ≤ D ∧ D ≤ 1000) : spec_l1Mod.f a D = some (a % D) := by
  unfold spec_l1Mod.f
  obtain ⟨h1, h2, h3⟩ := tm (a := a) (show 0 < D by omega)
  rw [if_neg (by omega), w64 (by omega) (by omega), h1]
theorem IsD.take {D : Int} {d : List Int} (h : IsD D d) (j : Nat) : IsD D (d.take j) := fun x hx => h x (List.mem_of_mem_take hx)
theorem IsD.drop {D : Int} {d : List Int} (h : IsD D d) (j : Nat) : IsD D (d.drop j) := fun x hx => h x (List.mem_of_mem_drop hx)
theorem IsD.get {D : Int} {d : List Int} (h : IsD D d) {j : Nat} (hj : j < d.length) : 0 ≤ d[j] ∧ d[j] < D := h _ (List.getElem_mem hj)
theorem eqStringS_ev (l : List ByteArray) (hl : l.length ≤ 100000000000000) : Ev (fun k => laws_eqStringS.f k l l) true := by
  unfold laws_eqStringS.f
  simp only [if_true]
  refine ev_loop (g := fun j k => laws_eqStringS.l0 k l l (j : Int)) l.length ?_ ?_
  · intro j hj ih
    refine Ev.succ ?_
    simp only [laws_eqStringS.l0, if_pos (show (j : Int) < (l.length : Int) by omega), if_pos (show (0 : Int) ≤ (j : Int) by omega), if_true, w64 (x := (j : Int) + 1) (by omega) (by omega)]
    exact ih
  · refine Ev.succ ?_
    simp only [laws_eqStringS.l0, if_neg (show ¬ ((l.length : Nat) : Int) < (l.length : Int) by omega)]
    exact Ev.now _
theorem markText_some (n : Nat) : ∀ (m : Nat) (x : ByteArray), m ≤ n → m ≤ 1000000000000000 → x.size + m ≤ 2000000000000000 → ∃ r, Ev (fun k => laws_markText.l0 k (m : Int) x) r := by
  induction n with
  | zero =>
    intro m x hm _ hx
    obtain rfl : m = 0 := by omega
    refine ⟨(⟨#[109]⟩ : ByteArray) ++ x, Ev.succ ?_⟩
    simp only [laws_markText.l0, if_neg (show ¬ (((0 : Nat) : Int) > 0) by omega), if_pos (show 1 + x.size ≤ 9223372036854775807 by omega)]
    exact Ev.now _
  | succ n ih =>
    intro m x hm hb hx
    by_cases h : m = 0
    · subst h
      refine ⟨(⟨#[109]⟩ : ByteArray) ++ x, Ev.succ ?_⟩
      simp only [laws_markText.l0, if_neg (show ¬ (((0 : Nat) : Int) > 0) by omega), if_pos (show 1 + x.size ≤ 9223372036854775807 by omega)]
      exact Ev.now _
    · have e : Int.tdiv (m : Int) 10 = ((m / 10 : Nat) : Int) := by rw [Int.tdiv_eq_ediv_of_nonneg (by omega)]; rfl
      have sz : (strOfNums [(wrap64 (48 + (Int.tmod (m : Int) 10))) % 256]).size = 1 := by rw [strOfNums_size]; rfl
      obtain ⟨r, hr⟩ := ih (m / 10) (strOfNums [(wrap64 (48 + (Int.tmod (m : Int) 10))) % 256] ++ x) (by omega) (by omega) (by rw [ByteArray.size_append, sz]; omega)
      refine ⟨r, Ev.succ ?_⟩
      simp only [laws_markText.l0, if_pos (show (m : Int) > 0 by omega), Option.bind_some, sz, if_pos (show 1 + x.size ≤ 9223372036854775807 by omega), e, w64 (x := ((m / 10 : Nat) : Int)) (by omega) (by omega)]
      exact hr
theorem mark_some (m : Nat) (h : m ≤ 1000000000000000) : ∃ r, Ev (fun k => laws_markText.f k (m : Int)) r := by
  unfold laws_markText.f
  by_cases h0 : (m : Int) ≤ 0
  · simp only [if_pos h0]; exact ⟨_, Ev.now _⟩
  · simp only [if_neg h0]; exact markText_some m m _ (Nat.le_refl _) h (by simp [ByteArray.size]; omega)
open Classical in
noncomputable def mt (m : Nat) : ByteArray := epsilon fun r => Ev (fun k => laws_markText.f k (m : Int)) r
theorem mt_ev (m : Nat) (h : m ≤ 1000000000000000) : Ev (fun k => laws_markText.f k (m : Int)) (mt m) := Classical.epsilon_spec (mark_some m h)
theorem marked (l : List ByteArray) (hl : l.length ≤ 100000000000000) :
    Ev (fun k => laws_markStringS.f k l 1) ((l.length : Int) + 1, (List.range l.length).map fun j => mt (j + 1)) := by
  unfold laws_markStringS.f
  refine ev_loop (g := fun j k => laws_markStringS.l0 k (((List.range j).map fun j => mt (j + 1)) ++ l.drop j) ((j : Int) + 1) (j : Int)) l.length ?_ ?_
  · intro j hj ih
    refine Ev.succ ?_
    have e : (((List.range j).map fun j => mt (j + 1)) ++ l.drop j).length = l.length := by simp; omega
    simp only [laws_markStringS.l0, e, if_pos (show (j : Int) < (l.length : Int) by omega), if_pos (show (0 : Int) ≤ (j : Int) by omega), w64 (x := (j : Int) + 1) (by omega) (by omega), w64 (x := (j : Int) + 1 + 1) (by omega) (by omega)]
    refine Ev.bind (mt_ev (j + 1) (by omega)) ?_
    have e2 : ((((List.range j).map fun j => mt (j + 1)) ++ l.drop j).set (j : Int).toNat (mt (j + 1))) = ((List.range (j + 1)).map fun j => mt (j + 1)) ++ l.drop (j + 1) := by
      rw [Int.toNat_natCast, List.set_append_right _ _ (by simp), List.length_map, List.length_range, Nat.sub_self, List.drop_eq_getElem_cons hj, List.set_cons_zero, List.range_succ, List.map_append, List.append_assoc]
      rfl
    rw [e2]
    exact ih
  · refine Ev.succ ?_
    have e : (((List.range l.length).map fun j => mt (j + 1)) ++ l.drop l.length).length = l.length := by simp
    simp only [laws_markStringS.l0, e, if_neg (show ¬ ((l.length : Nat) : Int) < (l.length : Int) by omega)]
    rw [List.drop_of_length_le (Nat.le_refl _), List.append_nil]
    exact Ev.now _
theorem held (n : Nat) (hn : n ≤ 100000000000000) : Ev (fun k => laws_heldStringS.f k ((List.range n).map fun j => mt (j + 1)) 1) ((n : Int) + 1) := by
  unfold laws_heldStringS.f
  refine ev_loop (g := fun j k => laws_heldStringS.l0 k ((List.range n).map fun j => mt (j + 1)) ((j : Int) + 1) (j : Int)) n ?_ ?_
  · intro j hj ih
    refine Ev.succ ?_
    have e : ((List.range n).map fun j => mt (j + 1)).length = n := by simp
    have e2 : rdOf ByteArray.empty ((List.range n).map fun j => mt (j + 1)) (j : Int) = mt (j + 1) := by
      unfold rdOf; rw [Int.toNat_natCast, List.getD_eq_getElem?_getD, List.getElem?_map, List.getElem?_range hj]; rfl
    simp only [laws_heldStringS.l0, e, if_pos (show (j : Int) < (n : Int) by omega), if_pos (show (0 : Int) ≤ (j : Int) by omega), w64 (x := (j : Int) + 1) (by omega) (by omega), w64 (x := (j : Int) + 1 + 1) (by omega) (by omega), e2]
    refine Ev.bind (mt_ev (j + 1) (by omega)) ?_
    simp only [if_true]
    exact ih
  · refine Ev.succ ?_
    have e : ((List.range n).map fun j => mt (j + 1)).length = n := by simp
    simp only [laws_heldStringS.l0, e, if_neg (show ¬ ((n : Nat) : Int) < (n : Int) by omega)]
    exact Ev.now _
end Go.Proofs.Ytihhiolflbieaaa.A
namespace Go.Proofs.Ytihhiolflbieaaa.O
open Go.RowKit Go.Proofs.Ytihhiolflbieaaa.P Go.Proofs.Ytihhiolflbieaaa.B Go.Proofs.Ytihhiolflbieaaa.C Go.Proofs.Ytihhiolflbieaaa.L Go.Proofs.Ytihhiolflbieaaa.A Go.Proofs.YtihhiolflbieaaaW.PrintWords Go.Proofs.YtihhiolflbieaaaW.PrintLast Go.Proofs.YtihhiolflbieaaaW.PrintMore
set_option linter.unusedVariables false
set_option linter.unusedSimpArgs false
theorem LK.w {W D : Int} (h : LK W D) : (W.toNat : Int) = W ∧ W.toNat ≤ 6 ∧ 0 < W.toNat := by obtain ⟨h1, h2, _⟩ := h; omega
theorem LK.d {W D : Int} (h : LK W D) : 2 ≤ D ∧ D ≤ 10 := h.2.2
/-- The text of a code, by its digits. -/
theorem codeOf {W D : Int} (h : LK W D) {s : ByteArray} (hc : isC W D s = true) : (digs s).length = W.toNat ∧ IsD D (digs s) ∧ txt (digs s) = s := by
  have z := isC_size hc
  refine ⟨by rw [digs_len]; omega, digs_isD (W := W) (LK.d h) (isC_isT hc), txt_digs (LK.d h) (isC_isT hc)⟩
end Go.Proofs.Ytihhiolflbieaaa.O
namespace Go.Proofs.Ytihhiolflbieaaa.O2
open Go.RowKit Go.Proofs.Ytihhiolflbieaaa.P Go.Proofs.Ytihhiolflbieaaa.B Go.Proofs.Ytihhiolflbieaaa.C Go.Proofs.Ytihhiolflbieaaa.L Go.Proofs.Ytihhiolflbieaaa.A Go.Proofs.Ytihhiolflbieaaa.O Go.Proofs.YtihhiolflbieaaaW.PrintWords Go.Proofs.YtihhiolflbieaaaW.PrintLast Go.Proofs.YtihhiolflbieaaaW.PrintMore
set_option linter.unusedVariables false
set_option linter.unusedSimpArgs false
def trn (m : Nat) : S66 := ⟨((m / 2 : Nat) : Int), if m % 2 = 0 then 1 else -1⟩
def trns (W : Nat) : List S66 := (List.range (2 * W)).map trn
theorem turns_ev {W : Nat} (h : W ≤ 6) : Ev (fun k => impl_turns.f k (W : Int)) (trns W) := by
  have : W = 0 ∨ W = 1 ∨ W = 2 ∨ W = 3 ∨ W = 4 ∨ W = 5 ∨ W = 6 := by omega
  rcases this with rfl | rfl | rfl | rfl | rfl | rfl | rfl <;> exact Ev.of (fun k => impl_turns.mono _ k) (k := 10) (by kernel_rfl)
def tur (D : Int) (i : Nat) (by_ : Int) (a : List Int) : List Int := a.set i ((a.getD i 0 + by_) % D)
theorem tur_isD {D : Int} (hD : 0 < D) {a : List Int} (h : IsD D a) (i : Nat) (e : Int) : IsD D (tur D i e a) := by
  intro x hx
  unfold tur at hx
  rcases List.mem_or_eq_of_mem_set hx with hx | rfl
  · exact h x hx
  · exact ⟨Int.emod_nonneg _ (by omega), Int.emod_lt_of_pos _ hD⟩
theorem tur_len (D : Int) (i : Nat) (e : Int) (a : List Int) : (tur D i e a).length = a.length := by simp [tur]
theorem turned_ev {W D : Int} (hD : 2 ≤ D ∧ D ≤ 10) {a : List Int} (ha : IsD D a) (hl : a.length ≤ 1000) {i : Nat} (hi : i < a.length) {e : Int} (he : -1000 ≤ e ∧ e ≤ 1000) :
    Ev (fun k => impl_Lock_turned.f k W D (txt a) (i : Int) e) (txt (tur D i e a)) := by
  unfold impl_Lock_turned.f
  refine Ev.bind (digits_ev _ (by rw [txt_size]; omega)) ?_
  rw [digs_txt (IsD.mono ha hD.2)]
  have x := IsD.get ha hi
  have g : a.getD i 0 = a[i] := by rw [List.getD_eq_getElem?_getD, List.getElem?_eq_getElem hi]; rfl
  simp only [if_pos (show (0 : Int) ≤ (i : Int) by omega), if_pos (show (i : Int) < (a.length : Int) by omega), rd_get a i hi, w64 (x := a[i] + e) (by omega) (by omega), around_eq (D := D) (by omega), Option.bind_some, Int.toNat_natCast]
  have t := text_ev (tur D i e a) (by rw [tur_len]; omega) (IsD.mono (tur_isD (by omega) ha i e) hD.2)
  unfold tur at t ⊢
  rw [g] at t ⊢
  exact Ev.bind t (Ev.now _)
theorem toList_inj {s t : ByteArray} : s.toList = t.toList ↔ s = t := by
  constructor
  · intro h
    rw [ByteArray.toList_eq, ByteArray.toList_eq] at h
    exact ByteArray.ext (Array.ext' h)
  · exact fun h => by rw [h]
end Go.Proofs.Ytihhiolflbieaaa.O2
namespace Go.Proofs.Ytihhiolflbieaaa.R
open Go.RowKit Go.Proofs.Ytihhiolflbieaaa.P Go.Proofs.Ytihhiolflbieaaa.B Go.Proofs.Ytihhiolflbieaaa.C Go.Proofs.Ytihhiolflbieaaa.L Go.Proofs.Ytihhiolflbieaaa.A Go.Proofs.Ytihhiolflbieaaa.O Go.Proofs.Ytihhiolflbieaaa.O2 Go.Proofs.YtihhiolflbieaaaW.PrintWords Go.Proofs.YtihhiolflbieaaaW.PrintLast Go.Proofs.YtihhiolflbieaaaW.PrintMore
set_option linter.unusedVariables false
set_option linter.unusedSimpArgs false
/-- A lock of rings. -/
def RK (W D : Int) : Prop := LK W D ∧ cnt W D ≤ 1000
instance (W D : Int) : Decidable (RK W D) := by unfold RK; infer_instance
theorem byte_inj {s t : ByteArray} (h : s.data.toList = t.data.toList) : s = t := ByteArray.ext (Array.ext' h)
end Go.Proofs.Ytihhiolflbieaaa.R
namespace Go.Proofs.Ytihhiolflbieaaa.S
open Go.RowKit Go.Proofs.Ytihhiolflbieaaa.P Go.Proofs.Ytihhiolflbieaaa.B Go.Proofs.Ytihhiolflbieaaa.C Go.Proofs.Ytihhiolflbieaaa.L Go.Proofs.Ytihhiolflbieaaa.A Go.Proofs.Ytihhiolflbieaaa.O Go.Proofs.Ytihhiolflbieaaa.O2 Go.Proofs.Ytihhiolflbieaaa.R Go.Proofs.YtihhiolflbieaaaW.PrintWords Go.Proofs.YtihhiolflbieaaaW.PrintLast Go.Proofs.YtihhiolflbieaaaW.PrintMore
set_option linter.unusedVariables false
set_option linter.unusedSimpArgs false
theorem comp_mem (zs : List (List UInt8)) (x : List UInt8) : ∀ m, (x ∈ Lib.compactUpTo zs.toArray m ↔ ∃ j, j < m ∧ zs.toArray[j]! = x)
  | 0 => by
    constructor
    · intro h; simp [Lib.compactUpTo] at h
    · rintro ⟨j, hj, _⟩; omega
  | m + 1 => by
    rw [Lib.compactUpTo_succ, List.mem_append, comp_mem zs x m]
    constructor
    · rintro (⟨j, hj, e⟩ | h)
      · exact ⟨j, by omega, e⟩
      · by_cases hk : Lib.keeps zs.toArray m = true
        · rw [if_pos hk, List.mem_singleton] at h
          exact ⟨m, by omega, h.symm⟩
        · rw [if_neg hk] at h; cases h
    · rintro ⟨j, hj, e⟩
      by_cases hm : j = m
      · subst hm
        by_cases hk : Lib.keeps zs.toArray j = true
        · right; rw [if_pos hk, List.mem_singleton]; exact e.symm
        · left
          unfold Lib.keeps at hk
          rw [decide_eq_true_eq] at hk
          refine ⟨j - 1, by omega, ?_⟩
          by_cases q : zs.toArray[j]! = zs.toArray[j - 1]!
          · rw [← q]; exact e
          · exact absurd (Or.inr q) hk
      · exact .inl ⟨j, by omega, e⟩
theorem asc {zs : List (List UInt8)} (h : zs.Pairwise (· ≤ ·)) {i j : Nat} (hij : i ≤ j) (hj : j < zs.length) : zs.toArray[i]! ≤ zs.toArray[j]! := by
  have hi : i < zs.length := by omega
  have e : ∀ k, k < zs.length → zs.toArray[k]! = zs.getD k default := by
    intro k hk
    simp [hk]
  rw [e i hi, e j hj, List.getD_eq_getElem?_getD, List.getD_eq_getElem?_getD, List.getElem?_eq_getElem hi, List.getElem?_eq_getElem hj]
  by_cases q : i = j
  · subst q; exact List.le_refl _
  · exact List.pairwise_iff_getElem.mp h i j hi hj (by omega)
theorem comp_nodup {zs : List (List UInt8)} (h : zs.Pairwise (· ≤ ·)) : ∀ m, m ≤ zs.length → (Lib.compactUpTo zs.toArray m).Nodup
  | 0, _ => by simp [Lib.compactUpTo]
  | m + 1, hm => by
    rw [Lib.compactUpTo_succ]
    by_cases hk : Lib.keeps zs.toArray m = true
    · rw [if_pos hk]
      rw [List.nodup_append]
      refine ⟨comp_nodup h m (by omega), by simp, ?_⟩
      intro a ha b hb e
      rw [List.mem_singleton] at hb
      subst hb
      obtain ⟨j, hj, q⟩ := (comp_mem zs a m).mp ha
      unfold Lib.keeps at hk
      rw [decide_eq_true_eq] at hk
      rcases hk with hk | hk
      · omega
      · have h1 := asc h (show j ≤ m - 1 by omega) (by omega)
        have h2 := asc h (show m - 1 ≤ m by omega) (by omega)
        rw [q, e] at h1
        exact hk (List.le_antisymm h1 h2)
    · rw [if_neg hk, List.append_nil]
      exact comp_nodup h m (by omega)
theorem bs_sorted (l : List ByteArray) : (impl_sorted.bs l).Pairwise (· ≤ ·) := by
  unfold impl_sorted.bs
  have := List.pairwise_mergeSort (le := fun x y : List UInt8 => decide (x ≤ y)) (fun a b c h1 h2 => by
    rw [decide_eq_true_eq] at *
    exact List.le_trans h1 h2) (fun a b => by
    rw [Bool.or_eq_true, decide_eq_true_eq, decide_eq_true_eq]
    exact List.le_total a b) (l.map fun s => s.data.toList)
  exact this.imp fun h => of_decide_eq_true h
theorem val_mem (l : List ByteArray) (s : ByteArray) : s ∈ impl_sorted.val l ↔ s ∈ l := by
  unfold impl_sorted.val Lib.compact
  rw [List.mem_map]
  have key : ∀ x : List UInt8, x ∈ Lib.compactUpTo (impl_sorted.bs l).toArray (impl_sorted.bs l).length ↔ x ∈ l.map fun s => s.data.toList := by
    intro x
    rw [comp_mem]
    have : (x ∈ l.map fun s => s.data.toList) ↔ x ∈ impl_sorted.bs l := by unfold impl_sorted.bs; rw [List.mem_mergeSort]
    rw [this, List.mem_iff_getElem]
    constructor
    · rintro ⟨j, hj, e⟩
      refine ⟨j, hj, ?_⟩
      rw [← e]; simp [hj]
    · rintro ⟨j, hj, e⟩
      refine ⟨j, hj, ?_⟩
      rw [← e]; simp [hj]
  constructor
  · rintro ⟨b, hb, rfl⟩
    obtain ⟨t, ht, e⟩ := List.mem_map.mp ((key b).mp hb)
    rw [← e]
    exact ht
  · intro hs
    exact ⟨s.data.toList, (key _).mpr (List.mem_map.mpr ⟨s, hs, rfl⟩), by rfl⟩
end Go.Proofs.Ytihhiolflbieaaa.S
namespace Go.Proofs.Ytihhiolflbieaaa.D2
open Go.RowKit Go.Proofs.Ytihhiolflbieaaa.P Go.Proofs.Ytihhiolflbieaaa.B Go.Proofs.Ytihhiolflbieaaa.C Go.Proofs.Ytihhiolflbieaaa.L Go.Proofs.Ytihhiolflbieaaa.A Go.Proofs.Ytihhiolflbieaaa.O Go.Proofs.Ytihhiolflbieaaa.O2 Go.Proofs.Ytihhiolflbieaaa.R Go.Proofs.YtihhiolflbieaaaW.PrintWords Go.Proofs.YtihhiolflbieaaaW.PrintLast Go.Proofs.YtihhiolflbieaaaW.PrintMore
set_option linter.unusedVariables false
set_option linter.unusedSimpArgs false
def gt (l : List ByteArray) (j : Nat) : ByteArray := l.getD j ByteArray.empty
theorem rd_gt (l : List ByteArray) (j : Nat) : rdOf ByteArray.empty l (j : Int) = gt l j := by unfold rdOf gt; rw [Int.toNat_natCast]
theorem gt_get (l : List ByteArray) {j : Nat} (h : j < l.length) : gt l j = l[j] := by unfold gt; rw [List.getD_eq_getElem?_getD, List.getElem?_eq_getElem h]; rfl
theorem gt_mem (l : List ByteArray) {j : Nat} (h : j < l.length) : gt l j ∈ l := by rw [gt_get l h]; exact List.getElem_mem h
def hasS (l : List ByteArray) (s : ByteArray) : Bool := l.any fun t => decide (t.data.toList = s.data.toList)
theorem hasS_iff (l : List ByteArray) (s : ByteArray) : hasS l s = true ↔ s ∈ l := by
  unfold hasS
  rw [List.any_eq_true]
  constructor
  · rintro ⟨t, ht, e⟩; rw [← byte_inj (of_decide_eq_true e)]; exact ht
  · intro h; exact ⟨s, h, decide_eq_true rfl⟩
instance : Nonempty S66 := ⟨⟨0, 0⟩⟩
theorem sz_ev (l : List ByteArray) (hl : l.length ≤ 8796093022208) (hs : ∀ s ∈ l, s.size ≤ 9223372036854775807) :
    ∃ r, Ev (fun k => laws_szStringS.f k l 1048576) r ∧ (0 ≤ r → l.length ≤ 1048576 ∧ ∀ s ∈ l, s.size ≤ 1048576) := by
  unfold laws_szStringS.f
  rw [w64 (x := 1048576 - (l.length : Int)) (by omega) (by omega)]
  by_cases h0 : 1048576 - (l.length : Int) < 0
  · refine ⟨-1, ?_, by omega⟩
    simp only [if_pos h0]; exact Ev.now _
  · simp only [if_neg h0]
    have key : ∀ m j : Nat, l.length - j = m → j ≤ l.length → ∀ x : Int, 0 ≤ x → x ≤ 1048576 → (∀ s ∈ l.take j, s.size ≤ 1048576) → ∃ r, Ev (fun k => laws_szStringS.l0 k l x (j : Int)) r ∧ (0 ≤ r → ∀ s ∈ l, s.size ≤ 1048576) := by
      intro m
      induction m with
      | zero =>
        intro j hm hj x hx hx2 ht
        obtain rfl : j = l.length := by omega
        refine ⟨x, Ev.succ ?_, fun _ => by rw [List.take_of_length_le (Nat.le_refl _)] at ht; exact ht⟩
        simp only [laws_szStringS.l0, if_neg (show ¬ ((l.length : Nat) : Int) < (l.length : Int) by omega)]
        exact Ev.now _
      | succ m ih =>
        intro j hm hj x hx hx2 ht
        have hj' : j < l.length := by omega
        have hz := hs _ (gt_mem l hj')
        have ex : wrap64 (x - ((gt l j).size : Int)) = x - ((gt l j).size : Int) := w64 (by omega) (by omega)
        by_cases hn : x - ((gt l j).size : Int) < 0
        · refine ⟨-1, Ev.succ ?_, by omega⟩
          simp only [laws_szStringS.l0, if_pos (show (j : Int) < (l.length : Int) by omega), if_pos (show (0 : Int) ≤ (j : Int) by omega), rd_gt, ex, if_pos hn]
          exact Ev.now _
        · obtain ⟨r, h1, h2⟩ := ih (j + 1) (by omega) (by omega) (x - ((gt l j).size : Int)) (by omega) (by omega) (fun s hs' => by
            rw [List.take_succ_eq_append_getElem hj', List.mem_append, List.mem_singleton] at hs'
            rcases hs' with q | q
            · exact ht s q
            · rw [q, ← gt_get l hj']; omega)
          refine ⟨r, Ev.succ ?_, h2⟩
          simp only [laws_szStringS.l0, if_pos (show (j : Int) < (l.length : Int) by omega), if_pos (show (0 : Int) ≤ (j : Int) by omega), rd_gt, ex, if_neg hn, w64 (x := (j : Int) + 1) (by omega) (by omega)]
          exact h1
    obtain ⟨r, h1, h2⟩ := key l.length 0 (by omega) (by omega) (1048576 - (l.length : Int)) (by omega) (by omega) (by simp)
    exact ⟨r, h1, fun q => ⟨by omega, h2 q⟩⟩
theorem toS_ev (l : List ByteArray) (hl : l.length ≤ 8796093022208) : Ev (fun k => laws_toStringS.f k l) l := by
  unfold laws_toStringS.f
  simp only [if_pos (show 0 ≤ (l.length : Int) by omega), Int.toNat_natCast, if_pos (show l.length ≤ 17592186044416 by omega)]
  refine ev_loop (g := fun j k => laws_toStringS.l0 k l (l.take j ++ List.replicate (l.length - j) (⟨#[]⟩ : ByteArray)) (j : Int)) l.length ?_ ?_
  · intro j hj ih
    refine Ev.succ ?_
    have e : (l.take j ++ List.replicate (l.length - j) (⟨#[]⟩ : ByteArray)).length = l.length := by simp; omega
    simp only [laws_toStringS.l0, if_pos (show (j : Int) < (l.length : Int) by omega), if_pos (show (0 : Int) ≤ (j : Int) by omega), e, rd_gt, Int.toNat_natCast, w64 (x := (j : Int) + 1) (by omega) (by omega)]
    have st : (l.take j ++ List.replicate (l.length - j) (⟨#[]⟩ : ByteArray)).set j (gt l j) = l.take (j + 1) ++ List.replicate (l.length - (j + 1)) (⟨#[]⟩ : ByteArray) := by
      have lt : (l.take j).length = j := by rw [List.length_take]; omega
      rw [List.set_append_right _ _ (by omega), lt, Nat.sub_self, show l.length - j = (l.length - (j + 1)) + 1 by omega, List.replicate_succ, List.set_cons_zero, List.take_succ_eq_append_getElem hj, gt_get l hj, List.append_assoc]
      rfl
    rw [st]
    exact ih
  · refine Ev.succ ?_
    have e : (l.take l.length ++ List.replicate (l.length - l.length) (⟨#[]⟩ : ByteArray)) = l := by simp
    rw [e]
    simp only [laws_toStringS.l0, if_neg (show ¬ ((l.length : Nat) : Int) < (l.length : Int) by omega)]
    exact Ev.now _
end Go.Proofs.Ytihhiolflbieaaa.D2
namespace Go.Proofs.Ytihhiolflbieaaa.NX
open Go.RowKit Go.Proofs.Ytihhiolflbieaaa.P Go.Proofs.Ytihhiolflbieaaa.B Go.Proofs.Ytihhiolflbieaaa.C Go.Proofs.Ytihhiolflbieaaa.L Go.Proofs.Ytihhiolflbieaaa.A Go.Proofs.Ytihhiolflbieaaa.O Go.Proofs.Ytihhiolflbieaaa.O2 Go.Proofs.Ytihhiolflbieaaa.R Go.Proofs.Ytihhiolflbieaaa.S Go.Proofs.Ytihhiolflbieaaa.D2 Go.Proofs.YtihhiolflbieaaaW.PrintWords Go.Proofs.YtihhiolflbieaaaW.PrintLast Go.Proofs.YtihhiolflbieaaaW.PrintMore
set_option linter.unusedVariables false
set_option linter.unusedSimpArgs false
theorem bl_iff : ∀ a b : List UInt8, Op.bytesLess a b = true ↔ a < b
  | a, [] => by simp [Op.bytesLess]
  | [], y :: b => by simp [Op.bytesLess]
  | x :: a, y :: b => by
    rw [List.cons_lt_cons_iff]
    simp only [Op.bytesLess, Bool.or_eq_true, decide_eq_true_eq, Bool.and_eq_true, beq_iff_eq, bl_iff a b]
/-- Texts in order, each once. -/
def Asc (l : List ByteArray) : Prop := l.Pairwise fun s t => s.data.toList < t.data.toList
theorem asc_eq : ∀ a b : List ByteArray, Asc a → Asc b → (∀ x, x ∈ a ↔ x ∈ b) → a = b
  | [], [], _, _, _ => rfl
  | [], y :: b, _, _, h => absurd ((h y).mpr (List.mem_cons_self ..)) (by simp)
  | x :: a, [], _, _, h => absurd ((h x).mp (List.mem_cons_self ..)) (by simp)
  | x :: a, y :: b, ha, hb, h => by
    obtain ⟨ha1, ha2⟩ := List.pairwise_cons.mp ha
    obtain ⟨hb1, hb2⟩ := List.pairwise_cons.mp hb
    have e : x = y := by
      rcases List.mem_cons.mp ((h x).mp (List.mem_cons_self ..)) with e | e
      · exact e
      · rcases List.mem_cons.mp ((h y).mpr (List.mem_cons_self ..)) with f | f
        · exact f.symm
        · exact absurd (List.lt_trans (hb1 x e) (ha1 y f)) (List.lt_irrefl _)
    subst e
    congr 1
    refine asc_eq a b ha2 hb2 fun z => ?_
    constructor
    · intro hz
      rcases List.mem_cons.mp ((h z).mp (List.mem_cons_of_mem _ hz)) with e | e
      · subst e; exact absurd (ha1 z hz) (List.lt_irrefl _)
      · exact e
    · intro hz
      rcases List.mem_cons.mp ((h z).mpr (List.mem_cons_of_mem _ hz)) with e | e
      · subst e; exact absurd (hb1 z hz) (List.lt_irrefl _)
      · exact e
theorem comp_asc {zs : List (List UInt8)} (h : zs.Pairwise (· ≤ ·)) : ∀ m, m ≤ zs.length → (Lib.compactUpTo zs.toArray m).Pairwise (· ≤ ·)
  | 0, _ => by simp [Lib.compactUpTo]
  | m + 1, hm => by
    rw [Lib.compactUpTo_succ, List.pairwise_append]
    refine ⟨comp_asc h m (by omega), by split <;> simp, ?_⟩
    intro a ha b hb
    split at hb
    · rw [List.mem_singleton] at hb
      subst hb
      obtain ⟨j, hj, rfl⟩ := (comp_mem zs a m).mp ha
      exact asc h (by omega) (by omega)
    · cases hb
theorem val_asc (l : List ByteArray) : Asc (impl_sorted.val l) := by
  have nd := comp_nodup (bs_sorted l) (impl_sorted.bs l).length (Nat.le_refl _)
  have pw := comp_asc (bs_sorted l) (impl_sorted.bs l).length (Nat.le_refl _)
  unfold Asc impl_sorted.val Lib.compact
  rw [List.pairwise_map]
  refine List.Pairwise.imp₂ ?_ pw nd
  intro a b h1 h2
  show a < b
  rcases Classical.em (a < b) with q | q
  · exact q
  · exact absurd (List.le_antisymm h1 (List.not_lt.mp q)) h2
/-- How many texts at the head are less. -/
def pl (l : List ByteArray) (s : ByteArray) : Nat := (l.takeWhile fun t => Op.bytesLess t.toList s.toList).length
def ins (l : List ByteArray) (s : ByteArray) : List ByteArray := if pl l s < l.length ∧ gt l (pl l s) = s then l else (l.take (pl l s) ++ [s]) ++ l.drop (pl l s)
theorem tl_eq (s : ByteArray) : s.toList = s.data.toList := ByteArray.toList_eq ..
theorem tw_nil {α : Type} (p : α → Bool) : ∀ l : List α, (l.takeWhile p).length ≤ l.length ∧ (∀ j (h : j < (l.takeWhile p).length) (h' : j < l.length), p l[j] = true) ∧ (∀ h : (l.takeWhile p).length < l.length, p (l[(l.takeWhile p).length]) = false)
  | [] => by simp
  | x :: l => by
    obtain ⟨h1, h2, h3⟩ := tw_nil p l
    by_cases q : p x = true
    · rw [List.takeWhile_cons_of_pos q]
      refine ⟨by simp only [List.length_cons]; omega, ?_, ?_⟩
      · intro j hj hj'
        cases j with
        | zero => exact q
        | succ j => exact h2 j (by simp only [List.length_cons] at hj; omega) (by simp only [List.length_cons] at hj'; omega)
      · intro h; simp only [List.length_cons] at h ⊢; exact h3 (by omega)
    · rw [List.takeWhile_cons_of_neg q]
      refine ⟨by simp, by simp, ?_⟩
      intro h; simp only [List.length_nil, List.getElem_cons_zero]; exact Bool.eq_false_iff.mpr q
theorem pl_le (l : List ByteArray) (s : ByteArray) : pl l s ≤ l.length := (tw_nil _ l).1
theorem pl_lt (l : List ByteArray) (s : ByteArray) {j : Nat} (h : j < pl l s) (h' : j < l.length) : Op.bytesLess l[j].toList s.toList = true := (tw_nil _ l).2.1 j h h'
theorem pl_at (l : List ByteArray) (s : ByteArray) (h : pl l s < l.length) : Op.bytesLess (l[pl l s]).toList s.toList = false := (tw_nil _ l).2.2 h
theorem ins_mem {l : List ByteArray} {s x : ByteArray} : x ∈ ins l s ↔ x ∈ l ∨ x = s := by
  unfold ins
  by_cases h : pl l s < l.length ∧ gt l (pl l s) = s
  · rw [if_pos h]
    constructor
    · exact .inl
    · rintro (q | q)
      · exact q
      · rw [q, ← h.2]; exact gt_mem l h.1
  · rw [if_neg h]
    have : (x ∈ l ↔ x ∈ l.take (pl l s) ∨ x ∈ l.drop (pl l s)) := by rw [← List.mem_append, List.take_append_drop]
    rw [List.mem_append, List.mem_append, List.mem_singleton, this]
    constructor
    · rintro ((q | q) | q)
      · exact .inl (.inl q)
      · exact .inr q
      · exact .inl (.inr q)
    · rintro ((q | q) | q)
      · exact .inl (.inl q)
      · exact .inr q
      · exact .inl (.inr q)
theorem ins_asc {l : List ByteArray} (hl : Asc l) (s : ByteArray) : Asc (ins l s) := by
  unfold ins
  by_cases h : pl l s < l.length ∧ gt l (pl l s) = s
  · rw [if_pos h]; exact hl
  · rw [if_neg h]
    have hp := List.pairwise_append.mp (show (l.take (pl l s) ++ l.drop (pl l s)).Pairwise (fun s t => s.data.toList < t.data.toList) by rw [List.take_append_drop]; exact hl)
    have hlo : ∀ a ∈ l.take (pl l s), a.data.toList < s.data.toList := by
      intro a ha
      obtain ⟨j, hj, e⟩ := List.mem_iff_getElem.mp ha
      have h1 : j < pl l s := by rw [List.length_take] at hj; omega
      have h2 : j < l.length := by rw [List.length_take] at hj; omega
      have := (bl_iff _ _).mp (pl_lt l s h1 h2)
      rw [tl_eq, tl_eq] at this
      rw [← e, List.getElem_take]; exact this
    have hhi : ∀ b ∈ l.drop (pl l s), s.data.toList < b.data.toList := by
      intro b hb
      obtain ⟨j, hj, e⟩ := List.mem_iff_getElem.mp hb
      have h1 : pl l s < l.length := by rw [List.length_drop] at hj; omega
      have h2 : pl l s + j < l.length := by rw [List.length_drop] at hj; omega
      have h3 := pl_at l s h1
      have h4 : ¬ l[pl l s].data.toList < s.data.toList := by
        intro q
        have := (bl_iff _ _).mpr q
        rw [tl_eq, tl_eq] at h3
        rw [this] at h3; cases h3
      have h5 : s.data.toList < l[pl l s].data.toList := by
        rcases Classical.em (s.data.toList < l[pl l s].data.toList) with q | q
        · exact q
        · have e2 := List.le_antisymm (List.not_lt.mp q) (List.not_lt.mp h4)
          exact absurd ⟨h1, by rw [gt_get l h1]; exact byte_inj e2⟩ h
      rw [← e, List.getElem_drop]
      cases j with
      | zero => exact h5
      | succ j => exact List.lt_trans h5 (List.pairwise_iff_getElem.mp hl _ _ h1 h2 (by omega))
    refine List.pairwise_append.mpr ⟨List.pairwise_append.mpr ⟨hp.1, by simp, ?_⟩, hp.2.1, ?_⟩
    · intro a ha b hb; rw [List.mem_singleton] at hb; subst hb; exact hlo a ha
    · intro a ha b hb
      rcases List.mem_append.mp ha with q | q
      · exact hp.2.2 a q b hb
      · rw [List.mem_singleton] at q; subst q; exact hhi b hb
theorem ins_len (l : List ByteArray) (s : ByteArray) : (ins l s).length ≤ l.length + 1 := by
  unfold ins; split
  · omega
  · simp only [List.length_append, List.length_take, List.length_drop, List.length_cons, List.length_nil]; omega
def nbs (W D : Int) (s : ByteArray) : List ByteArray := (trns W.toNat).map fun t => txt (tur D t.f0.toNat t.f1 (digs s))
def nx (W D : Int) (s : ByteArray) : List ByteArray := impl_sorted.val (nbs W D s)
theorem nbs_len (W D : Int) (s : ByteArray) : (nbs W D s).length = 2 * W.toNat := by simp [nbs, trns]
theorem nx_mem' {W D : Int} {s x : ByteArray} : x ∈ nx W D s ↔ x ∈ nbs W D s := val_mem _ _
theorem trn_f {m : Nat} : (trn m).f0.toNat = m / 2 ∧ ((trn m).f0 = ((m / 2 : Nat) : Int)) ∧ ((trn m).f1 = 1 ∨ (trn m).f1 = -1) := by
  refine ⟨by simp only [trn]; omega, rfl, ?_⟩
  simp only [trn]; split <;> simp
theorem nbs_range (W D : Int) (s : ByteArray) : nbs W D s = (List.range (2 * W.toNat)).map fun m => txt (tur D (m / 2) (trn m).f1 (digs s)) := by
  unfold nbs trns
  rw [List.map_map]
  refine List.map_congr_left fun m _ => ?_
  show txt (tur D (trn m).f0.toNat (trn m).f1 (digs s)) = _
  rw [trn_f.1]
theorem nbs_get {W D : Int} {s : ByteArray} {m : Nat} (h : m < (nbs W D s).length) : (nbs W D s)[m] = txt (tur D (m / 2) (trn m).f1 (digs s)) :=
  (List.getElem_of_eq (nbs_range W D s) h).trans (by rw [List.getElem_map, List.getElem_range])
theorem nx_len (W D : Int) (s : ByteArray) : (nx W D s).length ≤ 2 * W.toNat := by
  rw [← nbs_len W D s]
  unfold nx impl_sorted.val
  rw [List.length_map]
  have := impl_sorted.compact_le (impl_sorted.bs (nbs W D s))
  have e : (impl_sorted.bs (nbs W D s)).length = (nbs W D s).length := by unfold impl_sorted.bs; rw [List.length_mergeSort, List.length_map]
  omega
theorem next_ev {W D : Int} (h : LK W D) {s : ByteArray} (hs : isC W D s = true) : Ev (fun k => impl_Lock_next.f k W D s) (nx W D s) := by
  obtain ⟨c1, c2, c3⟩ := codeOf h hs
  have hw := (LK.w h)
  have tl : (trns W.toNat).length = 2 * W.toNat := by simp [trns]
  unfold impl_Lock_next.f
  have ht := turns_ev (W := W.toNat) hw.2.1
  rw [hw.1] at ht
  refine Ev.bind ht ?_
  refine ev_loop (g := fun j k => impl_Lock_next.l0 k s ((nbs W D s).take j) (trns W.toNat) ((trns W.toNat).length : Int) (j : Int) W D) (2 * W.toNat) ?_ ?_
  · intro j hj ih
    have hjt : j < (trns W.toNat).length := by omega
    have hjn : j < (nbs W D s).length := by rw [nbs_len]; omega
    have e : rd_T66 (trns W.toNat) (j : Int) = trn j := by
      unfold rd_T66
      rw [Int.toNat_natCast, List.getD_eq_getElem?_getD, List.getElem?_eq_getElem hjt]
      simp [trns]
    have tu := turned_ev (W := W) (LK.d h) c2 (by omega) (i := j / 2) (by omega) (e := (trn j).f1) (by rcases (trn_f (m := j)).2.2 with q | q <;> rw [q] <;> omega)
    rw [c3, ← (trn_f (m := j)).2.1, ← nbs_get hjn] at tu
    refine Ev.succ ?_
    simp only [impl_Lock_next.l0, if_pos (show (j : Int) < ((trns W.toNat).length : Int) by omega), if_pos (show (0 : Int) ≤ (j : Int) by omega), e, w64 (x := (j : Int) + 1) (by omega) (by omega)]
    refine Ev.bind tu ?_
    simp only [if_pos (show ((nbs W D s).take j).length < 8796093022208 by rw [List.length_take]; omega)]
    rw [List.take_succ_eq_append_getElem hjn] at ih
    exact ih
  · refine Ev.succ ?_
    simp only [impl_Lock_next.l0, tl, if_neg (show ¬ ((2 * W.toNat : Nat) : Int) < ((2 * W.toNat : Nat) : Int) by omega)]
    rw [List.take_of_length_le (by rw [nbs_len]; omega)]
    refine Ev.bind (a := nx W D s) ?_ (Ev.now _)
    unfold impl_sorted.f
    simp only [if_pos (show (nbs W D s).length ≤ 1000000000 by rw [nbs_len]; omega)]
    exact Ev.now _
theorem whMake_ev {W D : Int} (hD : 2 ≤ D ∧ D ≤ 10) {a : List Int} (ha : IsD D a) (hl : a.length ≤ 1000) {i : Nat} (hi : i < a.length) {e : Int} (he : -1000 ≤ e ∧ e ≤ 1000) :
    Ev (fun k => spec_whMake.f k W D (txt a) (i : Int) e) (txt (tur D i e a)) := by
  unfold spec_whMake.f
  refine Ev.bind (whDigits_ev _ (by rw [txt_size]; omega)) ?_
  rw [digs_txt (IsD.mono ha hD.2)]
  have x := IsD.get ha hi
  have g : a.getD i 0 = a[i] := by rw [List.getD_eq_getElem?_getD, List.getElem?_eq_getElem hi]; rfl
  simp only [if_pos (show (0 : Int) ≤ (i : Int) by omega), if_pos (show (i : Int) < (a.length : Int) by omega), rd_get a i hi, w64 (x := a[i] + e) (by omega) (by omega), l1Mod_eq (D := D) (by omega), Option.bind_some, Int.toNat_natCast]
  have t := whText_ev (tur D i e a) (by rw [tur_len]; omega) (IsD.mono (tur_isD (by omega) ha i e) hD.2)
  unfold tur at t ⊢
  rw [g] at t ⊢
  exact Ev.bind t (Ev.now _)
/-- The texts put in one after the other. -/
def insAll (l : List ByteArray) : List ByteArray := l.foldl ins []
theorem insAll_mem (l : List ByteArray) : ∀ acc x, x ∈ l.foldl ins acc ↔ x ∈ acc ∨ x ∈ l := by
  induction l with
  | nil => intro acc x; simp
  | cons y l ih =>
    intro acc x
    rw [List.foldl_cons, ih, ins_mem, List.mem_cons, or_assoc]
theorem insAll_asc (l : List ByteArray) : ∀ acc, Asc acc → Asc (l.foldl ins acc) := by
  induction l with
  | nil => intro acc h; exact h
  | cons y l ih => intro acc h; exact ih _ (ins_asc h y)
theorem insAll_val (l : List ByteArray) : insAll l = impl_sorted.val l := asc_eq _ _ (insAll_asc l _ List.Pairwise.nil) (val_asc l) fun x => by
  rw [show insAll l = l.foldl ins [] from rfl, insAll_mem, val_mem]; simp
theorem insAll_snoc (l : List ByteArray) (s : ByteArray) : insAll (l ++ [s]) = ins (insAll l) s := by unfold insAll; rw [List.foldl_append]; rfl
theorem insAll_len (l : List ByteArray) : (insAll l).length ≤ l.length := by
  rw [insAll_val]
  unfold impl_sorted.val
  rw [List.length_map]
  have := impl_sorted.compact_le (impl_sorted.bs l)
  have e : (impl_sorted.bs l).length = l.length := by unfold impl_sorted.bs; rw [List.length_mergeSort, List.length_map]
  omega
theorem l2_ev {W D : Int} (s : ByteArray) (x6 : List ByteArray) (hl : x6.length ≤ 1000) (x7 : Int) (t : ByteArray) (x22 : List Int) (x23 x24 : Int) (r : List ByteArray × Bool)
    (h : Ev (fun k => spec_NextCodes.l1 k s (ins x6 t) x7 x22 x23 (wrap64 (x24 + 1)) W D) r) : Ev (fun k => spec_NextCodes.l2 k s x6 x7 t 0 x22 x23 x24 W D) r := by
  have hp := pl_le x6 t
  refine ev_loop (g := fun j k => spec_NextCodes.l2 k s x6 x7 t (j : Int) x22 x23 x24 W D) (pl x6 t) ?_ ?_
  · intro j hj ih
    have g : rdOf ByteArray.empty x6 (j : Int) = x6[j]'(by omega) := by rw [rd_gt, gt_get x6 (by omega)]
    refine Ev.succ ?_
    simp only [spec_NextCodes.l2, if_pos (show (j : Int) < (x6.length : Int) by omega), if_pos (show (0 : Int) ≤ (j : Int) by omega), g, pl_lt x6 t hj (by omega), if_true, w64 (x := (j : Int) + 1) (by omega) (by omega)]
    exact ih
  · refine Ev.succ ?_
    by_cases q : pl x6 t < x6.length
    · have g : rdOf ByteArray.empty x6 ((pl x6 t : Nat) : Int) = x6[pl x6 t] := by rw [rd_gt, gt_get x6 q]
      simp only [spec_NextCodes.l2, if_pos (show ((pl x6 t : Nat) : Int) < (x6.length : Int) by omega), if_pos (show (0 : Int) ≤ ((pl x6 t : Nat) : Int) by omega), g, pl_at x6 t q, Bool.false_eq_true, if_false, if_neg (show ¬ ((pl x6 t : Nat) : Int) = (x6.length : Int) by omega)]
      by_cases e : x6[pl x6 t] = t
      · simp only [if_pos (toList_inj.mpr e)]
        have : ins x6 t = x6 := by unfold ins; rw [if_pos ⟨q, by rw [gt_get x6 q]; exact e⟩]
        rw [this] at h
        exact h
      · simp only [if_neg (fun q_ => e (toList_inj.mp q_))]
        have : ins x6 t = (x6.take (pl x6 t) ++ [t]) ++ x6.drop (pl x6 t) := by unfold ins; rw [if_neg (fun q_ => e (by rw [← gt_get x6 q]; exact q_.2))]
        rw [this] at h
        simp only [if_pos (show ((pl x6 t : Nat) : Int) ≤ (x6.length : Int) by omega), Option.bind_some, if_pos (show x6.length < 8796093022000 by omega), Int.toNat_natCast]
        exact h
    · have qe : pl x6 t = x6.length := by omega
      have : ins x6 t = (x6.take (pl x6 t) ++ [t]) ++ x6.drop (pl x6 t) := by unfold ins; rw [if_neg (fun q_ => q q_.1)]
      rw [this, qe] at h
      rw [qe]
      simp only [spec_NextCodes.l2, if_neg (show ¬ ((x6.length : Nat) : Int) < (x6.length : Int) by omega), if_true, if_pos (show (0 : Int) ≤ ((x6.length : Nat) : Int) by omega), if_pos (show ((x6.length : Nat) : Int) ≤ (x6.length : Int) by omega), Option.bind_some, if_pos (show x6.length < 8796093022000 by omega), Int.toNat_natCast]
      exact h
theorem nextCodes_ev {W D : Int} (h : LK W D) {s : ByteArray} (hs : isC W D s = true) (hz : s.size ≤ 140737488351232) : Ev (fun k => spec_NextCodes.f k W D s) (nx W D s, true) := by
  obtain ⟨c1, c2, c3⟩ := codeOf h hs
  have hw := (LK.w h)
  unfold spec_NextCodes.f
  refine Ev.bind (whAsked_ev W D s hz) ?_
  rw [decide_eq_true h, hs]
  simp only [Bool.and_self, if_true]
  have nl := nbs_len W D s
  have il : ∀ j, (insAll ((nbs W D s).take j)).length ≤ 1000 := fun j => by
    have := insAll_len ((nbs W D s).take j)
    rw [List.length_take] at this
    omega
  refine ev_loop (g := fun j k => spec_NextCodes.l0 k s (insAll ((nbs W D s).take (2 * j))) (j : Int) W D) W.toNat ?_ ?_
  · intro j hj ih
    have w1 := whMake_ev (W := W) (LK.d h) c2 (by omega) (i := j) (by omega) (e := 1) (by omega)
    have w2 := whMake_ev (W := W) (LK.d h) c2 (by omega) (i := j) (by omega) (e := -1) (by omega)
    rw [c3] at w1 w2
    have hm1 : 2 * j < (nbs W D s).length := by omega
    have hm2 : 2 * j + 1 < (nbs W D s).length := by omega
    have e1 : (nbs W D s)[2 * j] = txt (tur D j 1 (digs s)) := by
      rw [nbs_get, show 2 * j / 2 = j by omega]
      simp only [trn, show 2 * j % 2 = 0 by omega, if_true]
    have e2 : (nbs W D s)[2 * j + 1] = txt (tur D j (-1) (digs s)) := by
      rw [nbs_get, show (2 * j + 1) / 2 = j by omega]
      simp only [trn, show (2 * j + 1) % 2 = 1 by omega, show ¬ (1 : Nat) = 0 by omega, if_false]
    rw [show 2 * (j + 1) = 2 * j + 1 + 1 by omega, List.take_succ_eq_append_getElem hm2, insAll_snoc, List.take_succ_eq_append_getElem hm1, insAll_snoc, e1, e2] at ih
    refine Ev.succ ?_
    simp only [spec_NextCodes.l0, if_pos (show (j : Int) < W by omega), Option.bind_some]
    have r0 : rd ([1, -1] : List Int) 0 = 1 := rfl
    have r1 : rd ([1, -1] : List Int) 1 = -1 := rfl
    have l2_ : (([1, -1] : List Int).length : Int) = 2 := rfl
    refine Ev.succ ?_
    simp only [spec_NextCodes.l1, l2_, if_pos (show (0 : Int) < 2 by omega), if_pos (show (0 : Int) ≤ 0 by omega), r0]
    refine Ev.bind w1 ?_
    refine l2_ev s _ (il _) _ _ _ _ _ _ ?_
    rw [show wrap64 (0 + 1) = 1 by unfold wrap64; omega]
    refine Ev.succ ?_
    simp only [spec_NextCodes.l1, l2_, if_pos (show (1 : Int) < 2 by omega), if_pos (show (0 : Int) ≤ 1 by omega), r1]
    refine Ev.bind w2 ?_
    refine l2_ev s _ ?_ _ _ _ _ _ _ ?_
    · have := ins_len (insAll ((nbs W D s).take (2 * j))) (txt (tur D j 1 (digs s)))
      have := insAll_len ((nbs W D s).take (2 * j))
      rw [List.length_take] at this
      omega
    rw [show wrap64 (1 + 1) = 2 by unfold wrap64; omega]
    refine Ev.succ ?_
    simp only [spec_NextCodes.l1, l2_, if_neg (show ¬ (2 : Int) < 2 by omega), w64 (x := (j : Int) + 1) (by omega) (by omega)]
    exact ih
  · refine Ev.succ ?_
    simp only [spec_NextCodes.l0, hw.1, if_neg (show ¬ W < W by omega)]
    rw [List.take_of_length_le (by omega), insAll_val]
    exact Ev.now _
end Go.Proofs.Ytihhiolflbieaaa.NX
namespace Go.Proofs.Ytihhiolflbieaaa.DE
open Go.RowKit Go.Proofs.Ytihhiolflbieaaa.P Go.Proofs.Ytihhiolflbieaaa.B Go.Proofs.Ytihhiolflbieaaa.C Go.Proofs.Ytihhiolflbieaaa.L Go.Proofs.Ytihhiolflbieaaa.A Go.Proofs.Ytihhiolflbieaaa.O Go.Proofs.Ytihhiolflbieaaa.O2 Go.Proofs.Ytihhiolflbieaaa.R Go.Proofs.Ytihhiolflbieaaa.S Go.Proofs.Ytihhiolflbieaaa.D2 Go.Proofs.Ytihhiolflbieaaa.NX Go.Proofs.YtihhiolflbieaaaW.PrintWords Go.Proofs.YtihhiolflbieaaaW.PrintLast Go.Proofs.YtihhiolflbieaaaW.PrintMore
set_option linter.unusedVariables false
set_option linter.unusedSimpArgs false
theorem hasS_ev (l : List ByteArray) (s : ByteArray) (hl : l.length ≤ 1000000000) : Ev (fun k => spec_l1HasS.f k l s) (hasS l s) := by
  unfold spec_l1HasS.f
  have key := ev_down (g := fun j k => spec_l1HasS.l0 k s l (l.length : Int) (j : Int)) (R := fun j => hasS (l.drop j) s) l.length ?_ ?_
  · simpa using key
  · intro j hj ih
    have g : rdOf ByteArray.empty l (j : Int) = l[j] := by rw [rd_gt, gt_get l hj]
    have e : hasS (l.drop j) s = (decide (l[j] = s) || hasS (l.drop (j + 1)) s) := by
      rw [List.drop_eq_getElem_cons hj]
      unfold hasS
      rw [List.any_cons]
      congr 1
      rw [decide_eq_decide]
      exact ⟨fun q => byte_inj q, fun q => by rw [q]⟩
    refine Ev.succ ?_
    simp only [spec_l1HasS.l0, if_pos (show (j : Int) < (l.length : Int) by omega), if_pos (show (0 : Int) ≤ (j : Int) by omega), g, w64 (x := (j : Int) + 1) (by omega) (by omega)]
    by_cases q : l[j] = s
    · simp only [if_pos (toList_inj.mpr q)]
      rw [e, decide_eq_true q, Bool.true_or]; exact Ev.now _
    · simp only [if_neg (fun q_ => q (toList_inj.mp q_))]
      rw [e, decide_eq_false q, Bool.false_or]; exact ih
  · refine Ev.succ ?_
    simp only [spec_l1HasS.l0, if_neg (show ¬ ((l.length : Nat) : Int) < (l.length : Int) by omega)]
    rw [List.drop_length]; exact Ev.now _
theorem contains_eq (l : List ByteArray) (s : ByteArray) : Lib.containsS l s = hasS l s := by
  rw [Bool.eq_iff_iff, Lib.containsS_iff, hasS_iff]
def ls (l : List ByteArray) (j : Nat) : Bool := Op.bytesLess (gt l (j - 1)).toList (gt l j).toList
def okD (W D : Int) (l : List ByteArray) (j : Nat) : Bool := isC W D (gt l j) && (decide (j = 0) || ls l j)
def dFrom (W D : Int) (l : List ByteArray) (j : Nat) : Bool := (List.range (l.length - j)).all fun i => okD W D l (j + i)
def lFrom (l : List ByteArray) (j : Nat) : Bool := (List.range (l.length - j)).all fun i => ls l (j + i)
def deadB (W D : Int) (l : List ByteArray) : Bool := decide (l.length ≤ 60) && dFrom W D l 0
theorem from_step (p : Nat → Bool) {n j : Nat} (h : j < n) : ((List.range (n - j)).all fun i => p (j + i)) = (p j && (List.range (n - (j + 1))).all fun i => p (j + 1 + i)) := by
  rw [show n - j = (n - (j + 1)) + 1 by omega, List.range_succ_eq_map, List.all_cons, List.all_map]
  congr 2
  funext i
  show p (j + (i + 1)) = _
  rw [show j + (i + 1) = j + 1 + i by omega]
theorem deadB_len {W D : Int} {l : List ByteArray} (h : deadB W D l = true) : l.length ≤ 60 := by
  unfold deadB at h; rw [Bool.and_eq_true, decide_eq_true_eq] at h; exact h.1
theorem dead_split (W D : Int) (l : List ByteArray) : dFrom W D l 0 = (l.all (isC W D) && lFrom l 1) := by
  rw [Bool.eq_iff_iff, Bool.and_eq_true]
  unfold dFrom lFrom
  rw [List.all_eq_true, List.all_eq_true, List.all_eq_true]
  constructor
  · intro h
    have h' : ∀ j, j < l.length → isC W D (gt l j) = true ∧ (j = 0 ∨ ls l j = true) := fun j hj => by
      have := h j (List.mem_range.mpr (by omega))
      rw [Nat.zero_add] at this
      unfold okD at this
      rw [Bool.and_eq_true, Bool.or_eq_true, decide_eq_true_eq] at this
      exact this
    refine ⟨fun s hs => ?_, fun i hi => ?_⟩
    · obtain ⟨j, hj, e⟩ := List.mem_iff_getElem.mp hs
      rw [← e, ← gt_get l hj]; exact (h' j hj).1
    · have := List.mem_range.mp hi
      rcases (h' (1 + i) (by omega)).2 with q | q
      · omega
      · exact q
  · rintro ⟨h1, h2⟩ j hj
    have hj' := List.mem_range.mp hj
    rw [Nat.zero_add]
    unfold okD
    rw [Bool.and_eq_true, Bool.or_eq_true, decide_eq_true_eq]
    refine ⟨h1 _ (gt_mem l (by omega)), ?_⟩
    by_cases q : j = 0
    · exact .inl q
    · have := h2 (j - 1) (List.mem_range.mpr (by omega))
      rw [show 1 + (j - 1) = j by omega] at this
      exact .inr this
theorem deadLoop_ev (l : List ByteArray) (hl : l.length ≤ 60) : Ev (fun k => impl_areDead.l0 k l 1) (lFrom l 1) := by
  by_cases h0 : l.length = 0
  · refine Ev.succ ?_
    simp only [impl_areDead.l0, h0, if_neg (show ¬ (1 : Int) < ((0 : Nat) : Int) by omega)]
    have : lFrom l 1 = true := by unfold lFrom; rw [h0]; rfl
    rw [this]; exact Ev.now _
  have key := ev_down (g := fun j k => impl_areDead.l0 k l ((j + 1 : Nat) : Int)) (R := fun j => lFrom l (j + 1)) (l.length - 1) ?_ ?_
  · exact key
  · intro j hj ih
    have e : lFrom l (j + 1) = (ls l (j + 1) && lFrom l (j + 1 + 1)) := from_step (ls l) (by omega)
    have w1 : wrap64 (((j + 1 : Nat) : Int) - 1) = ((j : Nat) : Int) := by rw [w64 (by omega) (by omega)]; omega
    have w2 : wrap64 (((j + 1 : Nat) : Int) + 1) = ((j + 1 + 1 : Nat) : Int) := by rw [w64 (by omega) (by omega)]; omega
    refine Ev.succ ?_
    simp only [impl_areDead.l0, w1, w2, rd_gt, if_pos (show ((j + 1 : Nat) : Int) < (l.length : Int) by omega), if_pos (show (0 : Int) ≤ ((j + 1 : Nat) : Int) by omega), if_pos (show (0 : Int) ≤ ((j : Nat) : Int) by omega), if_pos (show ((j : Nat) : Int) < (l.length : Int) by omega)]
    by_cases q : Op.bytesLess (gt l j).toList (gt l (j + 1)).toList = true
    · simp only [if_pos q]
      rw [e, show ls l (j + 1) = true from q, Bool.true_and]; exact ih
    · simp only [if_neg q]
      rw [e, show ls l (j + 1) = false from Bool.eq_false_iff.mpr q, Bool.false_and]; exact Ev.now _
  · refine Ev.succ ?_
    simp only [impl_areDead.l0, if_neg (show ¬ ((l.length - 1 + 1 : Nat) : Int) < (l.length : Int) by omega)]
    have : lFrom l (l.length - 1 + 1) = true := by unfold lFrom; rw [show l.length - (l.length - 1 + 1) = 0 by omega]; rfl
    rw [this]; exact Ev.now _
theorem areDead_ev (W D : Int) (l : List ByteArray) (hl : l.length ≤ 140737488351232) (hs : ∀ s ∈ l, s.size ≤ 140737488351232) : Ev (fun k => impl_areDead.f k W D l) (decide (RK W D) && deadB W D l) := by
  unfold impl_areDead.f
  refine Ev.bind (isSmall_ev W D 1000) ?_
  by_cases h : RK W D
  · have h' : LK W D ∧ cnt W D ≤ 1000 := h
    simp only [decide_eq_true h', if_true, decide_eq_true h, Bool.true_and]
    unfold deadB
    by_cases hn : (l.length : Int) > 60
    · simp only [if_pos hn, decide_eq_false (show ¬ l.length ≤ 60 by omega), Bool.false_and]
      refine Ev.succ ?_
      simp only [impl_areDead.j0, if_true]; exact Ev.now _
    · simp only [if_neg hn, decide_eq_true (show l.length ≤ 60 by omega), Bool.true_and]
      refine Ev.bind (has_ev W D l hl hs) ?_
      rw [decide_eq_true h.1, Bool.true_and, dead_split]
      refine Ev.succ ?_
      by_cases q : l.all (isC W D) = true
      · simp only [impl_areDead.j0, q, Bool.not_true, Bool.false_eq_true, if_false, Bool.true_and]
        exact deadLoop_ev l (by omega)
      · simp only [impl_areDead.j0, Bool.eq_false_iff.mpr q, Bool.not_false, if_true, Bool.false_and]
        exact Ev.now _
  · have h' : ¬ (LK W D ∧ cnt W D ≤ 1000) := h
    simp only [decide_eq_false h', Bool.false_eq_true, if_false, decide_eq_false h, Bool.false_and]
    refine Ev.succ ?_
    simp only [impl_areDead.j0, if_true]; exact Ev.now _
theorem deList_ev {W D : Int} (h : LK W D) (l : List ByteArray) (hs : ∀ s ∈ l, s.size ≤ 140737488351232) : Ev (fun k => spec_deList.f k W D l) (deadB W D l) := by
  unfold spec_deList.f deadB
  by_cases hn : (l.length : Int) > 60
  · simp only [if_pos hn, decide_eq_false (show ¬ l.length ≤ 60 by omega), Bool.false_and]; exact Ev.now _
  · simp only [if_neg hn, decide_eq_true (show l.length ≤ 60 by omega), Bool.true_and]
    refine ev_down (g := fun j k => spec_deList.l0 k l l (l.length : Int) (j : Int) W D) (R := fun j => dFrom W D l j) l.length ?_ ?_
    · intro j hj ih
      have e : dFrom W D l j = (okD W D l j && dFrom W D l (j + 1)) := from_step (okD W D l) hj
      refine Ev.succ ?_
      simp only [spec_deList.l0, rd_gt, if_pos (show (j : Int) < (l.length : Int) by omega), if_pos (show (0 : Int) ≤ (j : Int) by omega), w64 (x := (j : Int) + 1) (by omega) (by omega)]
      refine Ev.bind (whCode_ev (LK.d h) (gt l j) (hs _ (gt_mem l hj))) ?_
      by_cases q : isC W D (gt l j) = true
      · simp only [q, if_true]
        by_cases z : j = 0
        · subst z
          simp only [if_neg (show ¬ ((0 : Nat) : Int) > 0 by omega)]
          rw [e, show okD W D l 0 = true by unfold okD; rw [q]; rfl, Bool.true_and]; exact ih
        · have w1 : wrap64 ((j : Int) - 1) = ((j - 1 : Nat) : Int) := by rw [w64 (by omega) (by omega)]; omega
          simp only [if_pos (show (j : Int) > 0 by omega), w1, rd_gt, if_pos (show (0 : Int) ≤ ((j - 1 : Nat) : Int) by omega), if_pos (show ((j - 1 : Nat) : Int) < (l.length : Int) by omega)]
          by_cases y : Op.bytesLess (gt l (j - 1)).toList (gt l j).toList = true
          · simp only [if_pos y]
            rw [e, show okD W D l j = true by unfold okD ls; rw [q, y, Bool.or_true]; rfl, Bool.true_and]; exact ih
          · simp only [if_neg y]
            rw [e, show okD W D l j = false by unfold okD ls; rw [Bool.eq_false_iff.mpr y, decide_eq_false z]; simp, Bool.false_and]; exact Ev.now _
      · simp only [Bool.eq_false_iff.mpr q, Bool.false_eq_true, if_false]
        rw [e, show okD W D l j = false by unfold okD; rw [Bool.eq_false_iff.mpr q]; rfl, Bool.false_and]; exact Ev.now _
    · refine Ev.succ ?_
      simp only [spec_deList.l0, if_neg (show ¬ ((l.length : Nat) : Int) < (l.length : Int) by omega)]
      have : dFrom W D l l.length = true := by unfold dFrom; rw [Nat.sub_self]; rfl
      rw [this]; exact Ev.now _
theorem deSmall_ev (W D : Int) : Ev (fun k => spec_deSmall.f k W D) (decide (RK W D)) := by
  unfold spec_deSmall.f
  by_cases h : LK W D
  · simp only [whGood_eq, Option.bind_some, decide_eq_true h, if_true]
    refine Ev.bind (whCount_ev h) ?_
    rw [show decide (RK W D) = decide (cnt W D ≤ 1000) by rw [decide_eq_decide]; unfold RK; simp [h]]
    exact Ev.now _
  · simp only [whGood_eq, Option.bind_some, decide_eq_false h, Bool.false_eq_true, if_false]
    rw [show decide (RK W D) = false by rw [decide_eq_false_iff_not]; unfold RK; simp [h]]
    exact Ev.now _
/-- A lock of few codes, dead codes of it, a live code. -/
def liveB (W D : Int) (l : List ByteArray) (c : ByteArray) : Bool := isC W D c && !hasS l c
theorem asked_ev (W D : Int) (l : List ByteArray) (c : ByteArray) (hs : ∀ s ∈ l, s.size ≤ 140737488351232) (hc : c.size ≤ 140737488351232) : Ev (fun k => spec_deAsked.f k W D l c) (decide (RK W D) && (deadB W D l && liveB W D l c)) := by
  unfold spec_deAsked.f
  refine Ev.bind (deSmall_ev W D) ?_
  by_cases h : RK W D
  · simp only [decide_eq_true h, if_true, Bool.true_and]
    refine Ev.bind (deList_ev h.1 l hs) ?_
    by_cases q : deadB W D l = true
    · simp only [q, if_true, Bool.true_and]
      refine Ev.bind (whCode_ev (LK.d h.1) c hc) ?_
      unfold liveB
      by_cases y : isC W D c = true
      · simp only [y, if_true, Bool.true_and]
        exact Ev.bind (hasS_ev l c (by have := deadB_len q; omega)) (Ev.now _)
      · simp only [Bool.eq_false_iff.mpr y, Bool.false_eq_true, if_false, Bool.false_and]; exact Ev.now _
    · simp only [Bool.eq_false_iff.mpr q, Bool.false_eq_true, if_false, Bool.false_and]; exact Ev.now _
  · simp only [decide_eq_false h, Bool.false_eq_true, if_false, Bool.false_and]; exact Ev.now _
theorem any_not (l cs : List ByteArray) : (!impl_areLive.any l cs) = cs.all fun c => !hasS l c := by
  unfold impl_areLive.any
  rw [List.not_any_eq_all_not]
  congr 1
  funext c
  rw [contains_eq]
theorem live_all (W D : Int) (l cs : List ByteArray) : (cs.all (isC W D) && cs.all fun c => !hasS l c) = cs.all (liveB W D l) := by
  induction cs with
  | nil => rfl
  | cons c cs ih =>
    rw [List.all_cons, List.all_cons, List.all_cons, ← ih]
    unfold liveB
    cases isC W D c <;> cases hasS l c <;> simp
theorem areLive_ev (W D : Int) (l cs : List ByteArray) (hl : l.length ≤ 140737488351232) (hs : ∀ s ∈ l, s.size ≤ 140737488351232) (hcl : cs.length ≤ 140737488351232) (hc : ∀ s ∈ cs, s.size ≤ 140737488351232) : Ev (fun k => impl_areLive.f k W D l cs) (decide (RK W D) && (deadB W D l && cs.all (liveB W D l))) := by
  unfold impl_areLive.f
  refine Ev.bind (areDead_ev W D l hl hs) ?_
  by_cases h : RK W D
  · simp only [decide_eq_true h, Bool.true_and]
    by_cases q : deadB W D l = true
    · simp only [q, if_true, Bool.true_and]
      refine Ev.bind (has_ev W D cs hcl hc) ?_
      rw [decide_eq_true h.1, Bool.true_and, ← live_all]
      by_cases y : cs.all (isC W D) = true
      · simp only [y, if_true, Bool.true_and, if_pos (show l.length ≤ 9223372036854775807 by omega), if_pos (show cs.length ≤ 9223372036854775807 by omega), any_not]
        exact Ev.now _
      · simp only [Bool.eq_false_iff.mpr y, Bool.false_eq_true, if_false, Bool.false_and]; exact Ev.now _
    · simp only [Bool.eq_false_iff.mpr q, Bool.false_eq_true, if_false, Bool.false_and]; exact Ev.now _
  · simp only [decide_eq_false h, Bool.false_and, Bool.false_eq_true, if_false]; exact Ev.now _
def lnx (W D : Int) (l : List ByteArray) (c : ByteArray) : List ByteArray := (nx W D c).filter fun s => !hasS l s
theorem nx_pos {W D : Int} (h : LK W D) (c : ByteArray) : 0 < (nx W D c).length := by
  have hw := LK.w h
  have nl := nbs_len W D c
  have : 0 < (nbs W D c).length := by omega
  have m := nx_mem'.mpr (List.getElem_mem this)
  exact List.length_pos_of_mem m
theorem liveNext_both (W D : Int) (l : List ByteArray) (c : ByteArray) (hl : l.length ≤ 140737488351232) (hs : ∀ s ∈ l, s.size ≤ 140737488351232) (hc : c.size ≤ 140737488351232) :
    Ev (fun k => spec_LiveNext.f k W D l c) (if (decide (RK W D) && (deadB W D l && liveB W D l c)) = true then (lnx W D l c, true) else ([], false)) ∧
    Ev (fun k => impl_LiveNext.f k W D l c) (if (decide (RK W D) && (deadB W D l && liveB W D l c)) = true then (lnx W D l c, true) else ([], false)) := by
  have a1 := asked_ev W D l c hs hc
  have a2 := areLive_ev W D l [c] hl hs (by simp) (fun s hs' => by rw [List.mem_singleton.mp hs']; exact hc)
  have e1 : [c].all (liveB W D l) = liveB W D l c := by simp
  rw [e1] at a2
  unfold spec_LiveNext.f impl_LiveNext.f
  by_cases q : (decide (RK W D) && (deadB W D l && liveB W D l c)) = true
  · simp only [if_pos q]
    rw [q] at a1 a2
    rw [Bool.and_eq_true, Bool.and_eq_true, decide_eq_true_eq] at q
    obtain ⟨hr, hd, hv⟩ := q
    have hcc : isC W D c = true := by unfold liveB at hv; rw [Bool.and_eq_true] at hv; exact hv.1
    have dl := deadB_len hd
    have nl := nx_len W D c
    have np := nx_pos hr.1 c
    have hw := LK.w hr.1
    constructor
    · refine Ev.bind a1 ?_
      simp only [if_true]
      refine Ev.bind (nextCodes_ev hr.1 hcc hc) ?_
      obtain ⟨ns, hns⟩ : ∃ ns, nx W D c = ns := ⟨_, rfl⟩
      unfold lnx
      rw [hns] at nl np ⊢
      refine ev_loop (g := fun j k => spec_LiveNext.l0 k l ((ns.take j).filter fun s => !hasS l s) ns (ns.length : Int) (j : Int)) ns.length ?_ ?_
      · intro j hj ih
        have g : rdOf ByteArray.empty ns (j : Int) = ns[j] := by rw [rd_gt, gt_get ns hj]
        have fl : ((ns.take j).filter fun s => !hasS l s).length ≤ j := Nat.le_trans (List.length_filter_le _ _) (by rw [List.length_take]; omega)
        rw [List.take_succ_eq_append_getElem hj, List.filter_append] at ih
        refine Ev.succ ?_
        simp only [spec_LiveNext.l0, if_pos (show (j : Int) < (ns.length : Int) by omega), if_pos (show (0 : Int) ≤ (j : Int) by omega), g, w64 (x := (j : Int) + 1) (by omega) (by omega)]
        refine Ev.bind (hasS_ev l ns[j] (by omega)) ?_
        by_cases y : hasS l ns[j] = true
        · simp only [y, if_true]
          simp only [List.filter_cons, y, Bool.not_true, Bool.false_eq_true, if_false, List.filter_nil, List.append_nil] at ih
          exact ih
        · simp only [Bool.eq_false_iff.mpr y, Bool.false_eq_true, if_false, if_pos (show ((ns.take j).filter fun s => !hasS l s).length < 8796093022208 by omega)]
          simp only [List.filter_cons, Bool.eq_false_iff.mpr y, Bool.not_false, if_true, List.filter_nil] at ih
          exact ih
      · refine Ev.succ ?_
        simp only [spec_LiveNext.l0, if_neg (show ¬ ((ns.length : Nat) : Int) < (ns.length : Int) by omega)]
        rw [List.take_length]; exact Ev.now _
    · refine Ev.bind a2 ?_
      simp only [if_true]
      refine Ev.bind (next_ev hr.1 hcc) ?_
      simp only [if_pos np, if_pos (show (nx W D c).length ≤ 1000000000 by omega), if_pos (show l.length ≤ 9223372036854775807 by omega), contains_eq]
      exact Ev.now _
  · rw [Bool.eq_false_iff.mpr q] at a1 a2
    simp only [if_neg q]
    refine ⟨Ev.bind a1 ?_, Ev.bind a2 ?_⟩
    · simp only [Bool.false_eq_true, if_false]; exact Ev.now _
    · simp only [Bool.false_eq_true, if_false]; exact Ev.now _
theorem lnx_len {W D : Int} (h : LK W D) (l : List ByteArray) (c : ByteArray) : (lnx W D l c).length ≤ 12 := by
  have := nx_len W D c
  have := LK.w h
  exact Nat.le_trans (List.length_filter_le _ _) (by omega)
end Go.Proofs.Ytihhiolflbieaaa.DE
namespace Go.Proofs.Ytihhiolflbieaaa.Pure
open Go.RowKit Go.Proofs.Ytihhiolflbieaaa.P Go.Proofs.Ytihhiolflbieaaa.B Go.Proofs.Ytihhiolflbieaaa.C Go.Proofs.Ytihhiolflbieaaa.L Go.Proofs.Ytihhiolflbieaaa.A Go.Proofs.Ytihhiolflbieaaa.O Go.Proofs.Ytihhiolflbieaaa.O2 Go.Proofs.Ytihhiolflbieaaa.R Go.Proofs.Ytihhiolflbieaaa.S Go.Proofs.Ytihhiolflbieaaa.D2 Go.Proofs.Ytihhiolflbieaaa.NX Go.Proofs.Ytihhiolflbieaaa.DE Go.Proofs.YtihhiolflbieaaaW.PrintWords Go.Proofs.YtihhiolflbieaaaW.PrintLast Go.Proofs.YtihhiolflbieaaaW.PrintMore
set_option linter.unusedVariables false
set_option linter.unusedSimpArgs false
theorem FnExactLiveNext : ∀ (a0_0 : Int) (a0_1 : Int) (l1 : List ByteArray) (a2 : ByteArray), (-9223372036854775808 ≤ a0_0 ∧ a0_0 ≤ 9223372036854775807) → (-9223372036854775808 ≤ a0_1 ∧ a0_1 ≤ 9223372036854775807) → l1.length * 16 ≤ 140737488351232 → (∀ s ∈ l1, s.size ≤ 9223372036854775807) → a2.size ≤ 140737488351232 → ∃ k, laws_FnExactLiveNext.f k a0_0 a0_1 l1 a2 = some true := by
  intro W D l c _ _ h1 h2 h3
  refine ev_ex ?_
  unfold laws_FnExactLiveNext.f
  by_cases hb : (c.size : Int) > 1048576
  · simp only [if_pos hb]; exact Ev.now _
  simp only [if_neg hb]
  obtain ⟨z, hz, hq⟩ := sz_ev l (by omega) h2
  refine Ev.bind hz ?_
  by_cases h0 : z < 0
  · simp only [if_pos h0]; exact Ev.now _
  simp only [if_neg h0, laws_toLock.f, Option.bind_some]
  obtain ⟨hl, hs⟩ := hq (by omega)
  obtain ⟨q1, q2⟩ := liveNext_both W D l c (by omega) (fun s m => by have := hs s m; omega) h3
  obtain ⟨r, b, hr, hrb⟩ : ∃ (r : List ByteArray) (b : Bool), r.length ≤ 1000 ∧ (if (decide (RK W D) && (deadB W D l && liveB W D l c)) = true then (lnx W D l c, true) else (([] : List ByteArray), false)) = (r, b) := by
    by_cases q : (decide (RK W D) && (deadB W D l && liveB W D l c)) = true
    · refine ⟨lnx W D l c, true, ?_, if_pos q⟩
      rw [Bool.and_eq_true, decide_eq_true_eq] at q
      have := lnx_len q.1.1 l c
      omega
    · exact ⟨[], false, by simp, if_neg q⟩
  rw [hrb] at q1 q2
  refine Ev.bind (toS_ev l (by omega)) (Ev.bind q1 (Ev.bind (toS_ev l (by omega)) (Ev.bind q2 (Ev.bind (eqStringS_ev r (by omega)) ?_))))
  simp only [if_true, bne_self_eq_false]
  refine Ev.succ ?_
  simp only [laws_FnExactLiveNext.j0, Bool.false_eq_true, if_false]
  refine Ev.bind (toS_ev l (by omega)) (Ev.bind (eqStringS_ev l (by omega)) ?_)
  simp only [if_true]
  refine Ev.bind (marked l (by omega)) ?_
  simp only [if_neg (show ¬ ((l.length : Int) + 1 < 0) by omega)]
  refine Ev.bind (eqStringS_ev r (by omega)) ?_
  simp only [if_true, bne_self_eq_false]
  refine Ev.succ ?_
  simp only [laws_FnExactLiveNext.j1, Bool.false_eq_true, if_false]
  refine Ev.bind (marked r (by omega)) (Ev.bind (held r.length (by omega)) ?_)
  simp only [if_neg (show ¬ ((r.length : Int) + 1 < 0) by omega), if_true, laws_toLock.f, Option.bind_some]
  refine Ev.bind (toS_ev l (by omega)) (Ev.bind q2 (Ev.bind (eqStringS_ev r (by omega)) ?_))
  simp only [if_true, bne_self_eq_false]
  refine Ev.succ ?_
  simp only [laws_FnExactLiveNext.j2, Bool.false_eq_true, if_false]
  refine Ev.bind (held r.length (by omega)) ?_
  simp only [if_neg (show ¬ ((r.length : Int) + 1 < 0) by omega), if_true]
  exact Ev.now _
end Go.Proofs.Ytihhiolflbieaaa.Pure
