/- The plain statement behind the law FnOrdersTurn: whatever the input, the law's Lean function answers true. Conditions: none but the sizes that the row gives. -/
import Derived.Test.YtijbngmlaggclaaPx0
import Derived.Lib.IndexMore
import Derived.Test.YtijbngmlaggclaaPx1
import Derived.Test.YtijbngmlaggclaaPx18
import Derived.Test.YtijbngmlaggclaaPx36
import Derived.Test.YtijbngmlaggclaaPx44
import Derived.Test.YtijbngmlaggclaaPx55
import Derived.Test.YtijbngmlaggclaaPx62
import Derived.Test.YtijbngmlaggclaaPx65
import Derived.Test.YtijbngmlaggclaaPx81
import Derived.Test.YtijbngmlaggclaaPx84
namespace Go.Proofs.Ytijbngmlaggclaa.B
open Go.RowKit Go.Proofs.Ytijbngmlaggclaa.P Go.Proofs.YtijbngmlaggclaaW.PrintWords Go.Proofs.YtijbngmlaggclaaW.PrintLast Go.Proofs.YtijbngmlaggclaaW.PrintMore
set_option linter.unusedVariables false
set_option linter.unusedSimpArgs false
theorem w64 {x : Int} (h0 : -9223372036854775808 ≤ x) (h1 : x ≤ 9223372036854775807) : wrap64 x = x := by unfold wrap64; omega
theorem ev_loop {α : Type} {g : Nat → Nat → Option α} {r : α} (n : Nat) (step : ∀ j, j < n → Ev (g (j + 1)) r → Ev (g j) r) (fin : Ev (g n) r) : Ev (g 0) r := by
  have : ∀ d, d ≤ n → Ev (g (n - d)) r := by
    intro d
    induction d with
    | zero => intro _; exact fin
    | succ d ih =>
      intro hd
      have := step (n - (d + 1)) (by omega)
      rw [show n - (d + 1) + 1 = n - d by omega] at this
      exact this (ih (by omega))
  have := this n (Nat.le_refl n)
  rwa [Nat.sub_self] at this
/-- Behind the loop's rounds the answer may differ from round to round (an early return). -/
theorem ev_down {α : Type} {g : Nat → Nat → Option α} {R : Nat → α} (n : Nat) (step : ∀ j, j < n → Ev (g (j + 1)) (R (j + 1)) → Ev (g j) (R j)) (fin : Ev (g n) (R n)) : Ev (g 0) (R 0) := by
  have : ∀ d, d ≤ n → Ev (g (n - d)) (R (n - d)) := by
    intro d
    induction d with
    | zero => intro _; exact fin
    | succ d ih =>
      intro hd
      have := step (n - (d + 1)) (by omega)
      rw [show n - (d + 1) + 1 = n - d by omega] at this
      exact this (ih (by omega))
  have := this n (Nat.le_refl n)
  rwa [Nat.sub_self] at this
theorem ev_ex {g : Nat → Option Bool} (h : Ev g true) : ∃ k, g k = some true := h.rounds
def LK (W D : Int) : Prop := 1 ≤ W ∧ W ≤ 6 ∧ 2 ≤ D ∧ D ≤ 10
instance (W D : Int) : Decidable (LK W D) := by unfold LK; infer_instance
theorem for_good {p : Int → Int → Bool} (h : ((List.range 6).all fun i => (List.range 9).all fun j => p (i + 1) (j + 2)) = true) {W D : Int} (hg : LK W D) : p W D = true := by
  obtain ⟨h1, h2, h3, h4⟩ := hg
  rw [List.all_eq_true] at h
  have a := h (W.toNat - 1) (List.mem_range.mpr (by omega))
  rw [List.all_eq_true] at a
  have b := a (D.toNat - 2) (List.mem_range.mpr (by omega))
  rw [show ((W.toNat - 1 : Nat) : Int) + 1 = W by omega, show ((D.toNat - 2 : Nat) : Int) + 2 = D by omega] at b
  exact b
theorem l1In_eq (a b c : Int) : spec_l1In.f a b c = some (decide (b ≤ a ∧ a ≤ c)) := by
  unfold spec_l1In.f
  by_cases h : a ≥ b
  · rw [if_pos h]; congr 1; rw [decide_eq_decide]; omega
  · rw [if_neg h]; congr 1; symm; rw [decide_eq_false_iff_not]; omega
theorem within_eq (a b c : Int) : impl_within.f a b c = some (decide (b ≤ a ∧ a ≤ c)) := by
  unfold impl_within.f
  by_cases h : b ≤ a
  · rw [if_pos h]; congr 1; rw [decide_eq_decide]; omega
  · rw [if_neg h]; congr 1; symm; rw [decide_eq_false_iff_not]; omega
theorem whGood_eq (W D : Int) : spec_whGood.f W D = some (decide (LK W D)) := by
  unfold spec_whGood.f
  rw [l1In_eq, Option.bind_some, l1In_eq, Option.bind_some]
  by_cases h : 1 ≤ W ∧ W ≤ 6
  · rw [if_pos (decide_eq_true h)]; congr 1; rw [decide_eq_decide]; unfold LK; omega
  · rw [if_neg (by rw [decide_eq_false h]; decide)]; congr 1; symm; rw [decide_eq_false_iff_not]; unfold LK; omega
theorem IsLock_eq (W D : Int) : impl_IsLock.f W D = some (decide (LK W D)) := by
  unfold impl_IsLock.f
  rw [within_eq, Option.bind_some, within_eq, Option.bind_some]
  by_cases h : 1 ≤ W ∧ W ≤ 6
  · rw [if_pos (decide_eq_true h)]; congr 1; rw [decide_eq_decide]; unfold LK; omega
  · rw [if_neg (by rw [decide_eq_false h]; decide)]; congr 1; symm; rw [decide_eq_false_iff_not]; unfold LK; omega
def cnt (W D : Int) : Int := D ^ W.toNat
theorem cnt_bd {W D : Int} (h : LK W D) : 2 ≤ cnt W D ∧ cnt W D ≤ 1000000 := by
  have := for_good (p := fun W D => decide (2 ≤ cnt W D ∧ cnt W D ≤ 1000000)) (by decide +kernel) h
  exact of_decide_eq_true this
theorem whCount_ev {W D : Int} (h : LK W D) : Ev (fun k => spec_whCount.f k W D) (cnt W D) := by
  have := for_good (p := fun W D => decide (spec_whCount.f 8 W D = some (cnt W D))) (by decide +kernel) h
  exact Ev.of (fun k => spec_whCount.mono _ _ k) (of_decide_eq_true this)
theorem count_ev {W D : Int} (h : LK W D) : Ev (fun k => impl_Lock_count.f k W D) (cnt W D) := by
  have := for_good (p := fun W D => decide (impl_Lock_count.f 8 W D = some (cnt W D))) (by decide +kernel) h
  exact Ev.of (fun k => impl_Lock_count.mono _ _ k) (of_decide_eq_true this)
end Go.Proofs.Ytijbngmlaggclaa.B
namespace Go.Proofs.Ytijbngmlaggclaa.C
open Go.RowKit Go.Proofs.Ytijbngmlaggclaa.P Go.Proofs.Ytijbngmlaggclaa.B Go.Proofs.YtijbngmlaggclaaW.PrintWords Go.Proofs.YtijbngmlaggclaaW.PrintLast Go.Proofs.YtijbngmlaggclaaW.PrintMore
set_option linter.unusedVariables false
set_option linter.unusedSimpArgs false
theorem Ev.succ {α : Type} {g : Nat → Option α} {r : α} (h : Ev (fun k => g (k + 1)) r) : Ev g r := Ev.step (fun _ => rfl) h
theorem bt_nat (s : ByteArray) (j : Nat) (h : j < s.data.toList.length) : bt s (j : Int) = ((s.data.toList[j]).toNat : Int) := by
  have h' : j < s.size := by rw [Array.length_toList] at h; exact h
  unfold bt
  rw [dif_pos (by rw [Int.toNat_natCast]; exact h')]
  simp only [Int.toNat_natCast, Array.getElem_toList]
  rfl
theorem size_len (s : ByteArray) : s.size = s.data.toList.length := by rw [Array.length_toList]; rfl
def dg (D : Int) (b : UInt8) : Bool := decide (48 ≤ (b.toNat : Int) ∧ (b.toNat : Int) < 48 + D)
def isT (D : Int) (s : ByteArray) : Bool := s.data.toList.all (dg D)
def isC (W D : Int) (s : ByteArray) : Bool := decide ((s.size : Int) = W) && isT D s
theorem drop_all {α : Type} (p : α → Bool) (l : List α) (j : Nat) (h : j < l.length) : (l.drop j).all p = (p l[j] && (l.drop (j + 1)).all p) := by
  rw [List.drop_eq_getElem_cons h, List.all_cons]
theorem isText_ev (W : Int) {D : Int} (hD : 2 ≤ D ∧ D ≤ 10) (s : ByteArray) (hs : s.size ≤ 140737488351232) : Ev (fun k => impl_Lock_isText.f k W D s) (isT D s) := by
  unfold impl_Lock_isText.f isT
  refine ev_down (g := fun j k => impl_Lock_isText.l0 k s (s.size : Int) (j : Int) W D) (R := fun j => (s.data.toList.drop j).all (dg D)) s.size ?_ ?_
  · intro j hj ih
    have hl : j < s.data.toList.length := by rw [← size_len]; exact hj
    have hb := bt_nat s j hl
    have hb2 : (s.data.toList[j]).toNat < 256 := UInt8.toNat_lt _
    refine Ev.succ ?_
    simp only [impl_Lock_isText.l0, if_pos (show (j : Int) < (s.size : Int) by omega), if_pos (show (0 : Int) ≤ (j : Int) by omega), within_eq, Option.bind_some,
      w64 (x := bt s j) (by omega) (by omega), w64 (x := 48 + D) (by omega) (by omega), w64 (x := 48 + D - 1) (by omega) (by omega), w64 (x := (j : Int) + 1) (by omega) (by omega)]
    rw [drop_all _ _ _ hl]
    by_cases h : 48 ≤ bt s j ∧ bt s j ≤ 48 + D - 1
    · have e : dg D s.data.toList[j] = true := by unfold dg; exact decide_eq_true (by omega)
      simp only [decide_eq_true h, if_true, e, Bool.true_and]
      exact ih
    · have e : dg D s.data.toList[j] = false := by unfold dg; exact decide_eq_false (by omega)
      simp only [decide_eq_false h, e, Bool.false_and, Bool.false_eq_true, if_false]
      exact Ev.now _
  · refine Ev.succ ?_
    simp only [impl_Lock_isText.l0, if_neg (show ¬ ((s.size : Nat) : Int) < (s.size : Int) by omega)]
    rw [List.drop_of_length_le (by rw [← size_len]; exact Nat.le_refl _)]
    exact Ev.now _
theorem isCode_ev {W D : Int} (hD : 2 ≤ D ∧ D ≤ 10) (s : ByteArray) (hs : s.size ≤ 140737488351232) : Ev (fun k => impl_Lock_isCode.f k W D s) (isC W D s) := by
  unfold impl_Lock_isCode.f isC
  by_cases h : (s.size : Int) = W
  · simp only [if_pos h, decide_eq_true h, Bool.true_and]
    exact Ev.bind (isText_ev W hD s hs) (Ev.now _)
  · simp only [if_neg h, decide_eq_false h, Bool.false_and]
    exact Ev.now _
theorem whCode_ev {W D : Int} (hD : 2 ≤ D ∧ D ≤ 10) (s : ByteArray) (hs : s.size ≤ 140737488351232) : Ev (fun k => spec_whCode.f k W D s) (isC W D s) := by
  unfold spec_whCode.f isC
  by_cases h : (s.size : Int) = W
  · simp only [if_pos h, decide_eq_true h, Bool.true_and]
    unfold isT
    refine ev_down (g := fun j k => spec_whCode.l0 k s (j : Int) W D) (R := fun j => (s.data.toList.drop j).all (dg D)) s.size ?_ ?_
    · intro j hj ih
      have hl : j < s.data.toList.length := by rw [← size_len]; exact hj
      have hb := bt_nat s j hl
      have hb2 : (s.data.toList[j]).toNat < 256 := UInt8.toNat_lt _
      refine Ev.succ ?_
      simp only [spec_whCode.l0, if_pos (show (j : Int) < (s.size : Int) by omega), if_pos (show (0 : Int) ≤ (j : Int) by omega), l1In_eq, Option.bind_some,
        w64 (x := bt s j) (by omega) (by omega), w64 (x := bt s j - 48) (by omega) (by omega), w64 (x := D - 1) (by omega) (by omega), w64 (x := (j : Int) + 1) (by omega) (by omega)]
      rw [drop_all _ _ _ hl]
      by_cases h : 0 ≤ bt s j - 48 ∧ bt s j - 48 ≤ D - 1
      · have e : dg D s.data.toList[j] = true := by unfold dg; exact decide_eq_true (by omega)
        simp only [decide_eq_true h, if_true, e, Bool.true_and]
        exact ih
      · have e : dg D s.data.toList[j] = false := by unfold dg; exact decide_eq_false (by omega)
        simp only [decide_eq_false h, e, Bool.false_and, Bool.false_eq_true, if_false]
        exact Ev.now _
    · refine Ev.succ ?_
      simp only [spec_whCode.l0, if_neg (show ¬ ((s.size : Nat) : Int) < (s.size : Int) by omega)]
      rw [List.drop_of_length_le (by rw [← size_len]; exact Nat.le_refl _)]
      exact Ev.now _
  · simp only [if_neg h, decide_eq_false h, Bool.false_and]
    exact Ev.now _
theorem whAsked_ev (W D : Int) (s : ByteArray) (hs : s.size ≤ 140737488351232) : Ev (fun k => spec_whAsked.f k W D s) (decide (LK W D) && isC W D s) := by
  unfold spec_whAsked.f
  simp only [whGood_eq, Option.bind_some]
  by_cases h : LK W D
  · simp only [decide_eq_true h, if_true, Bool.true_and]
    exact Ev.bind (whCode_ev h.2.2 s hs) (Ev.now _)
  · simp only [decide_eq_false h, Bool.false_eq_true, if_false, Bool.false_and]
    exact Ev.now _
/-- A lock, and texts that are codes of it. -/
theorem has_ev (W D : Int) (l : List ByteArray) (hl : l.length ≤ 140737488351232) (hs : ∀ s ∈ l, s.size ≤ 140737488351232) : Ev (fun k => impl_has.f k W D l) (decide (LK W D) && l.all (isC W D)) := by
  unfold impl_has.f
  simp only [IsLock_eq, Option.bind_some]
  by_cases h : LK W D
  · simp only [decide_eq_true h, if_true, Bool.true_and]
    refine ev_down (g := fun j k => impl_has.l0 k l (l.length : Int) (j : Int) W D) (R := fun j => (l.drop j).all (isC W D)) l.length ?_ ?_
    · intro j hj ih
      refine Ev.succ ?_
      have e : rdOf ByteArray.empty l (j : Int) = l[j] := by unfold rdOf; rw [Int.toNat_natCast, List.getD_eq_getElem?_getD, List.getElem?_eq_getElem hj]; rfl
      simp only [impl_has.l0, if_pos (show (j : Int) < (l.length : Int) by omega), if_pos (show (0 : Int) ≤ (j : Int) by omega), w64 (x := (j : Int) + 1) (by omega) (by omega), e]
      refine Ev.bind (isCode_ev h.2.2 l[j] (hs _ (List.getElem_mem hj))) ?_
      rw [drop_all _ _ _ hj]
      by_cases c : isC W D l[j] = true
      · simp only [c, if_true, Bool.true_and]; exact ih
      · rw [Bool.not_eq_true] at c
        simp only [c, Bool.false_and, Bool.false_eq_true, if_false]
        exact Ev.now _
    · refine Ev.succ ?_
      simp only [impl_has.l0, if_neg (show ¬ ((l.length : Nat) : Int) < (l.length : Int) by omega)]
      rw [List.drop_of_length_le (Nat.le_refl _)]
      exact Ev.now _
  · simp only [decide_eq_false h, Bool.false_eq_true, if_false, Bool.false_and]
    exact Ev.now _
def digs (s : ByteArray) : List Int := s.data.toList.map fun b => ((b.toNat : Int) - 48) % 256
def txt (d : List Int) : ByteArray := strOfNums (d.map fun n => (48 + n) % 256)
/-- Digits of a lock. -/
def IsD (D : Int) (d : List Int) : Prop := ∀ x ∈ d, 0 ≤ x ∧ x < D
theorem digs_len (s : ByteArray) : (digs s).length = s.size := by unfold digs; rw [List.length_map, size_len]
theorem digs_get (s : ByteArray) (j : Nat) (h : j < (digs s).length) : (digs s)[j] = (bt s j - 48) % 256 := by
  unfold digs at h ⊢
  rw [List.length_map] at h
  rw [List.getElem_map, bt_nat s j h]
theorem rd_get (l : List Int) (j : Nat) (h : j < l.length) : rd l (j : Int) = l[j] := by
  unfold rd; rw [Int.toNat_natCast, List.getD_eq_getElem?_getD, List.getElem?_eq_getElem h]; rfl
theorem digs_isD {W D : Int} (hD : 2 ≤ D ∧ D ≤ 10) {s : ByteArray} (h : isT D s = true) : IsD D (digs s) := by
  intro x hx
  unfold isT at h
  rw [List.all_eq_true] at h
  obtain ⟨b, hb, rfl⟩ := List.mem_map.mp hx
  have := of_decide_eq_true (h b hb)
  omega
theorem isC_size {W D : Int} {s : ByteArray} (h : isC W D s = true) : (s.size : Int) = W := by
  unfold isC at h; rw [Bool.and_eq_true] at h; exact of_decide_eq_true h.1
theorem isC_isT {W D : Int} {s : ByteArray} (h : isC W D s = true) : isT D s = true := by
  unfold isC at h; rw [Bool.and_eq_true] at h; exact h.2
theorem txt_digs {D : Int} (hD : 2 ≤ D ∧ D ≤ 10) {s : ByteArray} (h : isT D s = true) : txt (digs s) = s := by
  unfold txt digs strOfNums
  rw [List.map_map, List.map_map]
  have : s.data.toList.map (((fun n : Int => UInt8.ofNat n.toNat) ∘ (fun n : Int => (48 + n) % 256)) ∘ fun b : UInt8 => ((b.toNat : Int) - 48) % 256) = s.data.toList := by
    conv => rhs; rw [← List.map_id s.data.toList]
    refine List.map_congr_left fun b hb => ?_
    unfold isT at h
    rw [List.all_eq_true] at h
    have := of_decide_eq_true (h b hb)
    simp only [Function.comp, id]
    rw [show (48 + ((b.toNat : Int) - 48) % 256) % 256 = (b.toNat : Int) by omega, Int.toNat_natCast, UInt8.ofNat_toNat]
  rw [this]
theorem digs_txt {d : List Int} (h : IsD 10 d) : digs (txt d) = d := by
  unfold txt digs strOfNums
  simp only
  rw [List.map_map, List.map_map]
  conv => rhs; rw [← List.map_id d]
  refine List.map_congr_left fun x hx => ?_
  have := h x hx
  simp only [Function.comp, id]
  rw [UInt8.toNat_ofNat']
  omega
theorem txt_size (d : List Int) : (txt d).size = d.length := by unfold txt; rw [strOfNums_size, List.length_map]
theorem txt_isT {D : Int} (hD : 2 ≤ D ∧ D ≤ 10) {d : List Int} (h : IsD D d) : isT D (txt d) = true := by
  unfold isT txt strOfNums
  simp only
  rw [List.all_eq_true]
  intro b hb
  rw [List.map_map] at hb
  obtain ⟨x, hx, rfl⟩ := List.mem_map.mp hb
  have := h x hx
  unfold dg
  refine decide_eq_true ?_
  simp only [Function.comp]
  rw [UInt8.toNat_ofNat']
  omega
theorem IsD.mono {D D' : Int} {d : List Int} (h : IsD D d) (hh : D ≤ D') : IsD D' d := fun x hx => ⟨(h x hx).1, by have := (h x hx).2; omega⟩
theorem txt_inj {d e : List Int} (hd : IsD 10 d) (he : IsD 10 e) (h : txt d = txt e) : d = e := by rw [← digs_txt hd, h, digs_txt he]
theorem whDigits_ev (s : ByteArray) (hs : s.size ≤ 10000000000) : Ev (fun k => spec_whDigits.f k s) (digs s) := by
  unfold spec_whDigits.f
  refine ev_loop (g := fun j k => spec_whDigits.l0 k s ((digs s).take j) (j : Int)) s.size ?_ ?_
  · intro j hj ih
    have hl : j < (digs s).length := by rw [digs_len]; exact hj
    refine Ev.succ ?_
    have ht : ((digs s).take j).length = j := by rw [List.length_take]; omega
    simp only [spec_whDigits.l0, if_pos (show (j : Int) < (s.size : Int) by omega), if_pos (show (0 : Int) ≤ (j : Int) by omega), ht, if_pos (show j < 17592186044416 by omega), w64 (x := (j : Int) + 1) (by omega) (by omega)]
    rw [List.take_succ_eq_append_getElem hl, digs_get s j hl] at ih
    exact ih
  · refine Ev.succ ?_
    simp only [spec_whDigits.l0, if_neg (show ¬ ((s.size : Nat) : Int) < (s.size : Int) by omega)]
    rw [List.take_of_length_le (by rw [digs_len]; exact Nat.le_refl _)]
    exact Ev.now _
theorem digits_ev (s : ByteArray) (hs : s.size ≤ 10000000000) : Ev (fun k => impl_digits.f k s) (digs s) := by
  unfold impl_digits.f
  refine ev_loop (g := fun j k => impl_digits.l0 k s ((digs s).take j) (s.size : Int) (j : Int)) s.size ?_ ?_
  · intro j hj ih
    have hl : j < (digs s).length := by rw [digs_len]; exact hj
    refine Ev.succ ?_
    have ht : ((digs s).take j).length = j := by rw [List.length_take]; omega
    simp only [impl_digits.l0, if_pos (show (j : Int) < (s.size : Int) by omega), if_pos (show (0 : Int) ≤ (j : Int) by omega), ht, if_pos (show j < 17592186044416 by omega), w64 (x := (j : Int) + 1) (by omega) (by omega)]
    rw [List.take_succ_eq_append_getElem hl, digs_get s j hl] at ih
    exact ih
  · refine Ev.succ ?_
    simp only [impl_digits.l0, if_neg (show ¬ ((s.size : Nat) : Int) < (s.size : Int) by omega)]
    rw [List.take_of_length_le (by rw [digs_len]; exact Nat.le_refl _)]
    exact Ev.now _
theorem strOfNums_append (a b : List Int) : strOfNums a ++ strOfNums b = strOfNums (a ++ b) := by
  apply ByteArray.ext
  rw [ByteArray.data_append]
  unfold strOfNums
  simp only [List.map_append, List.append_toArray]
theorem txt_append (a b : List Int) : txt a ++ txt b = txt (a ++ b) := by unfold txt; rw [strOfNums_append, List.map_append]
theorem text_ev (l : List Int) (hl : l.length ≤ 10000000000) (h : IsD 10 l) : Ev (fun k => impl_text.f k l) (txt l) := by
  unfold impl_text.f
  refine ev_loop (g := fun j k => impl_text.l0 k ((l.map fun n => (48 + n) % 256).take j) l (l.length : Int) (j : Int)) l.length ?_ ?_
  · intro j hj ih
    have hm : j < (l.map fun n => (48 + n) % 256).length := by rw [List.length_map]; exact hj
    have hx := h _ (List.getElem_mem hj)
    have hr := rd_get l j hj
    refine Ev.succ ?_
    have ht : ((l.map fun n => (48 + n) % 256).take j).length = j := by rw [List.length_take]; omega
    simp only [impl_text.l0, if_pos (show (j : Int) < (l.length : Int) by omega), if_pos (show (0 : Int) ≤ (j : Int) by omega), ht, if_pos (show j < 140737488355328 by omega), w64 (x := (j : Int) + 1) (by omega) (by omega), hr, w64 (x := 48 + l[j]) (by omega) (by omega)]
    rw [List.take_succ_eq_append_getElem hm, List.getElem_map] at ih
    exact ih
  · refine Ev.succ ?_
    simp only [impl_text.l0, if_neg (show ¬ ((l.length : Nat) : Int) < (l.length : Int) by omega)]
    rw [List.take_of_length_le (by rw [List.length_map]; exact Nat.le_refl _)]
    exact Ev.now _
theorem l1Num_ev {n : Int} (h : 0 ≤ n ∧ n < 10) : Ev (fun k => spec_l1Num.f k n) (txt [n]) := by
  refine Ev.succ ?_
  simp only [spec_l1Num.f, if_pos h.2, w64 (x := 48 + n) (by omega) (by omega)]
  exact Ev.now _
theorem whText_ev (l : List Int) (hl : l.length ≤ 10000000000) (h : IsD 10 l) : Ev (fun k => spec_whText.f k l) (txt l) := by
  unfold spec_whText.f
  refine ev_loop (g := fun j k => spec_whText.l0 k (txt (l.take j)) l (l.length : Int) (j : Int)) l.length ?_ ?_
  · intro j hj ih
    have hx := h _ (List.getElem_mem hj)
    have hr := rd_get l j hj
    refine Ev.succ ?_
    have ht : (l.take j).length = j := by rw [List.length_take]; omega
    simp only [spec_whText.l0, if_pos (show (j : Int) < (l.length : Int) by omega), if_pos (show (0 : Int) ≤ (j : Int) by omega), w64 (x := (j : Int) + 1) (by omega) (by omega), hr]
    refine Ev.bind (l1Num_ev hx) ?_
    simp only [txt_size, ht, List.length_singleton, if_pos (show j + 1 ≤ 9223372036854775807 by omega), txt_append]
    rw [List.take_succ_eq_append_getElem hj] at ih
    exact ih
  · refine Ev.succ ?_
    simp only [spec_whText.l0, if_neg (show ¬ ((l.length : Nat) : Int) < (l.length : Int) by omega)]
    rw [List.take_of_length_le (Nat.le_refl _)]
    exact Ev.now _
end Go.Proofs.Ytijbngmlaggclaa.C
namespace Go.Proofs.Ytijbngmlaggclaa.L
open Go.Proofs.Ytijbngmlaggclaa.C
set_option linter.unusedVariables false
set_option linter.unusedSimpArgs false
theorem pw_pos {D : Int} (h : 0 < D) : ∀ n : Nat, 0 < D ^ n
  | 0 => by simp
  | n + 1 => by rw [Int.pow_succ]; exact Int.mul_pos (pw_pos h n) h
def num (D : Int) : List Int → Int
  | [] => 0
  | x :: xs => x * D ^ xs.length + num D xs
theorem IsD.cons {D x : Int} {xs : List Int} (h : IsD D (x :: xs)) : (0 ≤ x ∧ x < D) ∧ IsD D xs := ⟨h x (List.mem_cons_self ..), fun y hy => h y (List.mem_cons_of_mem _ hy)⟩
theorem IsD.mk {D x : Int} {xs : List Int} (h : 0 ≤ x ∧ x < D) (hs : IsD D xs) : IsD D (x :: xs) := by
  intro y hy
  rcases List.mem_cons.mp hy with rfl | hy
  · exact h
  · exact hs y hy
theorem IsD.nil {D : Int} : IsD D [] := fun y hy => by cases hy
theorem num_bd {D : Int} (hD : 0 < D) : ∀ d : List Int, IsD D d → 0 ≤ num D d ∧ num D d + 1 ≤ D ^ d.length
  | [], _ => by simp [num]
  | x :: xs, h => by
    obtain ⟨⟨h0, h1⟩, hs⟩ := IsD.cons h
    have ih := num_bd hD xs hs
    have hp := pw_pos hD xs.length
    have a : x * D ^ xs.length ≤ (D - 1) * D ^ xs.length := Int.mul_le_mul_of_nonneg_right (by omega) (by omega)
    have b : 0 ≤ x * D ^ xs.length := Int.mul_nonneg h0 (by omega)
    have c : (D - 1) * D ^ xs.length = D ^ xs.length * D - D ^ xs.length := by rw [Int.sub_mul, Int.one_mul, Int.mul_comm]
    simp only [num, List.length_cons, Int.pow_succ]
    omega
theorem num_append (D : Int) : ∀ a b : List Int, num D (a ++ b) = num D a * D ^ b.length + num D b
  | [], b => by simp [num]
  | x :: xs, b => by
    simp only [List.cons_append, num, num_append D xs b, List.length_append, Int.pow_add, Int.add_mul, Int.mul_assoc]
    omega
theorem num_snoc (D : Int) (a : List Int) (x : Int) : num D (a ++ [x]) = num D a * D + x := by
  rw [num_append]; simp [num, Int.pow_succ]
def cod (D : Int) : Nat → Int → List Int
  | 0, _ => []
  | j + 1, n => (n / D ^ j % D) :: cod D j n
theorem cod_len (D : Int) : ∀ j n, (cod D j n).length = j
  | 0, _ => rfl
  | j + 1, n => by simp [cod, cod_len D j n]
theorem cod_isD {D : Int} (hD : 0 < D) : ∀ j n, IsD D (cod D j n)
  | 0, _ => IsD.nil
  | j + 1, n => IsD.mk ⟨Int.emod_nonneg _ (by omega), Int.emod_lt_of_pos _ hD⟩ (cod_isD hD j n)
theorem divmod {y q P : Int} (h0 : 0 ≤ y) (h1 : y < P) : (y + q * P) / P = q ∧ (y + q * P) % P = y := by
  constructor
  · rw [Int.add_mul_ediv_right _ _ (by omega), Int.ediv_eq_zero_of_lt h0 h1, Int.zero_add]
  · rw [Int.add_mul_emod_self_right, Int.emod_eq_of_lt h0 h1]
theorem cod_add {D : Int} (hD : 0 < D) : ∀ (j : Nat) (n t : Int), cod D j (n + t * D ^ j) = cod D j n
  | 0, _, _ => rfl
  | j + 1, n, t => by
    have e : t * D ^ (j + 1) = t * D * D ^ j := by rw [Int.pow_succ, Int.mul_comm (D ^ j) D, Int.mul_assoc]
    have hp := pw_pos hD j
    simp only [cod]
    rw [e, cod_add hD j n (t * D), Int.add_mul_ediv_right _ _ (by omega), Int.add_mul_emod_self_right]
theorem cod_mod {D : Int} (hD : 0 < D) (j : Nat) (n : Int) : cod D j (n % D ^ j) = cod D j n := by
  have := cod_add hD j (n % D ^ j) (n / D ^ j)
  rw [← this, Int.mul_comm, Int.emod_add_mul_ediv]
theorem num_cod {D : Int} (hD : 0 < D) : ∀ (j : Nat) (n : Int), num D (cod D j n) = n % D ^ j
  | 0, n => by simp [cod, num, Int.emod_one]
  | j + 1, n => by
    have hp := pw_pos hD j
    simp only [cod, num, cod_len, num_cod hD j n]
    have e1 := Int.emod_add_mul_ediv n (D ^ j)
    have e2 := Int.emod_add_mul_ediv (n / D ^ j) D
    have b1 := Int.emod_nonneg n (b := D ^ j) (by omega)
    have b2 := Int.emod_lt_of_pos n hp
    have c1 := Int.emod_nonneg (n / D ^ j) (b := D) (by omega)
    have c2 := Int.emod_lt_of_pos (n / D ^ j) hD
    have a : n / D ^ j % D * D ^ j ≤ (D - 1) * D ^ j := Int.mul_le_mul_of_nonneg_right (by omega) (by omega)
    have b : 0 ≤ n / D ^ j % D * D ^ j := Int.mul_nonneg c1 (by omega)
    have c : (D - 1) * D ^ j = D ^ j * D - D ^ j := by rw [Int.sub_mul, Int.one_mul, Int.mul_comm]
    have f : n = (n / D ^ j % D * D ^ j + n % D ^ j) + (n / D ^ j / D) * (D ^ j * D) := by
      have g : n / D ^ j * D ^ j = n / D ^ j % D * D ^ j + n / D ^ j / D * (D ^ j * D) := by
        conv => lhs; rw [← e2]
        rw [Int.add_mul, Int.mul_comm D (n / D ^ j / D), Int.mul_assoc, Int.mul_comm D (D ^ j)]
      rw [Int.mul_comm (n / D ^ j)] at g
      omega
    rw [Int.pow_succ]
    conv => rhs; rw [f]
    rw [Int.add_mul_emod_self_right]
    exact (Int.emod_eq_of_lt (by omega) (by omega)).symm
theorem cod_num {D : Int} (hD : 0 < D) : ∀ d : List Int, IsD D d → cod D d.length (num D d) = d
  | [], _ => rfl
  | x :: xs, h => by
    obtain ⟨⟨h0, h1⟩, hs⟩ := IsD.cons h
    have b := num_bd hD xs hs
    have hp := pw_pos hD xs.length
    have dm := divmod (q := x) b.1 (show num D xs < D ^ xs.length by omega)
    simp only [List.length_cons, cod, num]
    rw [Int.add_comm, dm.1, Int.emod_eq_of_lt h0 h1, cod_add hD, cod_num hD xs hs]
def ff (D : Int) : Int → List Int → List Int
  | _, [] => []
  | s, x :: xs => (if s % 2 = 1 then D - 1 - x else x) :: ff D (s * D + x) xs
def fi (D : Int) : Nat → Int → List Int
  | 0, _ => []
  | w + 1, r => (r / D ^ w) :: fi D w (if r / D ^ w % 2 = 1 then D ^ w - 1 - r % D ^ w else r % D ^ w)
theorem fi_len (D : Int) : ∀ w r, (fi D w r).length = w
  | 0, _ => rfl
  | w + 1, r => by simp [fi, fi_len D w]
/-- Of a number below D^(w+1): its first digit and the rest. -/
theorem parts {D : Int} (hD : 0 < D) (w : Nat) {r : Int} (h0 : 0 ≤ r) (h1 : r < D ^ (w + 1)) :
    0 ≤ r / D ^ w ∧ r / D ^ w < D ∧ 0 ≤ r % D ^ w ∧ r % D ^ w < D ^ w ∧ r = r % D ^ w + r / D ^ w * D ^ w := by
  have hp := pw_pos hD w
  rw [Int.pow_succ] at h1
  refine ⟨Int.ediv_nonneg h0 (by omega), Int.ediv_lt_of_lt_mul hp (by rw [Int.mul_comm]; exact h1), Int.emod_nonneg _ (by omega), Int.emod_lt_of_pos _ hp, ?_⟩
  rw [Int.mul_comm, Int.emod_add_mul_ediv]
theorem par_mul {s D : Int} (h : s % 2 = 1) : (s * D) % 2 = D % 2 := by
  rw [Int.mul_emod, h, Int.one_mul, Int.emod_emod_of_dvd _ (Int.dvd_refl 2)]
theorem par_mul0 {s D : Int} (h : ¬ s % 2 = 1) : (s * D) % 2 = 0 := by
  rw [Int.mul_emod, show s % 2 = 0 by omega, Int.zero_mul]; rfl
theorem ff_fi {D : Int} (hD : 0 < D) : ∀ (w : Nat) (s r : Int), 0 ≤ r → r < D ^ w → ff D s (cod D w r) = fi D w (if s % 2 = 1 then D ^ w - 1 - r else r)
  | 0, _, _, _, _ => rfl
  | w + 1, s, r, h0, h1 => by
    obtain ⟨q0, q1, y0, y1, e⟩ := parts hD w h0 h1
    have hp := pw_pos hD w
    generalize hq : r / D ^ w = q at *
    generalize hy : r % D ^ w = y at *
    have ec : cod D w r = cod D w y := by rw [e, cod_add hD]
    have ih := fun s => ff_fi hD w s y y0 y1
    simp only [cod, ff, hq, Int.emod_eq_of_lt q0 q1, ec, ih]
    by_cases hs : s % 2 = 1
    · have pm := par_mul (D := D) hs
      have er : D ^ (w + 1) - 1 - r = (D ^ w - 1 - y) + (D - 1 - q) * D ^ w := by
        rw [Int.pow_succ, e, Int.sub_mul, Int.sub_mul, Int.one_mul, Int.mul_comm D (D ^ w)]; omega
      have dm := divmod (y := D ^ w - 1 - y) (q := D - 1 - q) (P := D ^ w) (by omega) (by omega)
      simp only [hs, if_true, fi, er, dm.1, dm.2]
      congr 2
      by_cases hd : (D - 1 - q) % 2 = 1
      · rw [if_pos hd, if_neg (by omega)]; omega
      · rw [if_neg hd, if_pos (by omega)]
    · have pm := par_mul0 (D := D) hs
      simp only [hs, if_false, fi, hq, hy]
      congr 2
      by_cases hd : q % 2 = 1
      · rw [if_pos hd, if_pos (by omega)]
      · rw [if_neg hd, if_neg (by omega)]
theorem fi_isD {D : Int} (hD : 0 < D) : ∀ (w : Nat) (r : Int), 0 ≤ r → r < D ^ w → IsD D (fi D w r)
  | 0, _, _, _ => IsD.nil
  | w + 1, r, h0, h1 => by
    obtain ⟨q0, q1, y0, y1, e⟩ := parts hD w h0 h1
    refine IsD.mk ⟨q0, q1⟩ ?_
    split
    · exact fi_isD hD w _ (by omega) (by omega)
    · exact fi_isD hD w _ y0 y1
def fr (D : Int) : Int → List Int → Int
  | r, [] => r
  | r, x :: xs => fr D (r * D + (if r % 2 = 1 then D - 1 - x else x)) xs
def fb (D : Int) : List Int → Int
  | [] => 0
  | x :: xs => x * D ^ xs.length + (if x % 2 = 1 then D ^ xs.length - 1 - fb D xs else fb D xs)
theorem fb_bd {D : Int} (hD : 0 < D) : ∀ d : List Int, IsD D d → 0 ≤ fb D d ∧ fb D d + 1 ≤ D ^ d.length
  | [], _ => by simp [fb]
  | x :: xs, h => by
    obtain ⟨⟨h0, h1⟩, hs⟩ := IsD.cons h
    have ih := fb_bd hD xs hs
    have hp := pw_pos hD xs.length
    have a : x * D ^ xs.length ≤ (D - 1) * D ^ xs.length := Int.mul_le_mul_of_nonneg_right (by omega) (by omega)
    have b : 0 ≤ x * D ^ xs.length := Int.mul_nonneg h0 (by omega)
    have c : (D - 1) * D ^ xs.length = D ^ xs.length * D - D ^ xs.length := by rw [Int.sub_mul, Int.one_mul, Int.mul_comm]
    simp only [fb, List.length_cons, Int.pow_succ]
    split <;> omega
theorem fr_fb {D : Int} (hD : 0 < D) : ∀ (d : List Int) (r : Int), fr D r d = r * D ^ d.length + (if r % 2 = 1 then D ^ d.length - 1 - fb D d else fb D d)
  | [], r => by simp [fr, fb]
  | x :: xs, r => by
    simp only [fr, fb, List.length_cons]
    rw [fr_fb hD xs, Int.pow_succ]
    generalize D ^ xs.length = P
    have e1 : (r * D + (if r % 2 = 1 then D - 1 - x else x)) * P = r * (P * D) + (if r % 2 = 1 then P * D - P - x * P else x * P) := by
      rw [Int.add_mul, Int.mul_assoc, Int.mul_comm D P]
      congr 1
      split
      · rw [Int.sub_mul, Int.sub_mul, Int.one_mul, Int.mul_comm D P]
      · rfl
    rw [e1]
    by_cases hr : r % 2 = 1
    · have pm := par_mul (D := D) hr
      simp only [hr, if_true]
      by_cases hx : x % 2 = 1
      · rw [if_neg (by omega), if_pos hx]; omega
      · rw [if_pos (by omega), if_neg hx]; omega
    · have pm := par_mul0 (D := D) hr
      simp only [hr, if_false]
      by_cases hx : x % 2 = 1
      · rw [if_pos (by omega), if_pos hx]; omega
      · rw [if_neg (by omega), if_neg hx]; omega
theorem fb_fi {D : Int} (hD : 0 < D) : ∀ (w : Nat) (r : Int), 0 ≤ r → r < D ^ w → fb D (fi D w r) = r
  | 0, r, h0, h1 => by simp only [fi, fb]; rw [Int.pow_zero] at h1; omega
  | w + 1, r, h0, h1 => by
    obtain ⟨q0, q1, y0, y1, e⟩ := parts hD w h0 h1
    simp only [fi, fb, fi_len]
    by_cases hq : r / D ^ w % 2 = 1
    · simp only [hq, if_true]
      rw [fb_fi hD w _ (by omega) (by omega)]; omega
    · simp only [hq, if_false]
      rw [fb_fi hD w _ y0 y1]; omega
theorem fi_fb {D : Int} (hD : 0 < D) : ∀ (d : List Int), IsD D d → fi D d.length (fb D d) = d
  | [], _ => rfl
  | x :: xs, h => by
    obtain ⟨⟨h0, h1⟩, hs⟩ := IsD.cons h
    have b := fb_bd hD xs hs
    have ih := fi_fb hD xs hs
    simp only [List.length_cons, fi, fb]
    by_cases hx : x % 2 = 1
    · have dm := divmod (y := D ^ xs.length - 1 - fb D xs) (q := x) (P := D ^ xs.length) (by omega) (by omega)
      simp only [hx, if_true]
      rw [Int.add_comm, dm.1, dm.2]
      simp only [hx, if_true]
      rw [show D ^ xs.length - 1 - (D ^ xs.length - 1 - fb D xs) = fb D xs by omega, ih]
    · have dm := divmod (y := fb D xs) (q := x) (P := D ^ xs.length) (by omega) (by omega)
      simp only [hx, if_false]
      rw [Int.add_comm, dm.1, dm.2]
      simp only [hx, if_false]
      rw [ih]
def df (D : Int) : Int → List Int → List Int
  | _, [] => []
  | p, x :: xs => ((x - p) % D) :: df D x xs
def ps (D : Int) : Int → List Int → List Int
  | _, [] => []
  | s, x :: xs => ((s + x) % D) :: ps D ((s + x) % D) xs
theorem df_len (D : Int) : ∀ (d : List Int) (p : Int), (df D p d).length = d.length
  | [], _ => rfl
  | x :: xs, p => by simp [df, df_len D xs]
theorem ps_len (D : Int) : ∀ (d : List Int) (p : Int), (ps D p d).length = d.length
  | [], _ => rfl
  | x :: xs, p => by simp [ps, ps_len D xs]
theorem df_isD {D : Int} (hD : 0 < D) : ∀ (d : List Int) (p : Int), IsD D (df D p d)
  | [], _ => IsD.nil
  | x :: xs, p => IsD.mk ⟨Int.emod_nonneg _ (by omega), Int.emod_lt_of_pos _ hD⟩ (df_isD hD xs x)
theorem ps_isD {D : Int} (hD : 0 < D) : ∀ (d : List Int) (p : Int), IsD D (ps D p d)
  | [], _ => IsD.nil
  | x :: xs, p => IsD.mk ⟨Int.emod_nonneg _ (by omega), Int.emod_lt_of_pos _ hD⟩ (ps_isD hD xs _)
theorem ps_df {D : Int} (hD : 0 < D) : ∀ (d : List Int) (p : Int), IsD D d → ps D p (df D p d) = d
  | [], _, _ => rfl
  | x :: xs, p, h => by
    obtain ⟨⟨h0, h1⟩, hs⟩ := IsD.cons h
    have e : (p + (x - p) % D) % D = x := by
      rw [Int.add_emod_emod, show p + (x - p) = x by omega, Int.emod_eq_of_lt h0 h1]
    simp only [df, ps, e, ps_df hD xs x hs]
theorem df_ps {D : Int} (hD : 0 < D) : ∀ (d : List Int) (p : Int), IsD D d → df D p (ps D p d) = d
  | [], _, _ => rfl
  | x :: xs, p, h => by
    obtain ⟨⟨h0, h1⟩, hs⟩ := IsD.cons h
    have e : ((p + x) % D - p) % D = x := by
      rw [Int.emod_sub_emod, show p + x - p = x by omega, Int.emod_eq_of_lt h0 h1]
    simp only [df, ps, e, df_ps hD xs _ hs]
/-- b is a with one digit turned by 1 or -1. -/
def Nx (D : Int) : List Int → List Int → Prop
  | x :: xs, y :: ys => (x = y ∧ Nx D xs ys) ∨ (xs = ys ∧ x ≠ y ∧ (y = (x + 1) % D ∨ y = (x - 1) % D))
  | _, _ => False
theorem Nx.symm {D : Int} : ∀ {a b : List Int}, IsD D a → IsD D b → Nx D a b → Nx D b a
  | [], [], _, _, h => h
  | [], _ :: _, _, _, h => h
  | _ :: _, [], _, _, h => h
  | x :: xs, y :: ys, ha, hb, h => by
    obtain ⟨⟨a0, a1⟩, ha'⟩ := IsD.cons ha
    obtain ⟨⟨b0, b1⟩, hb'⟩ := IsD.cons hb
    rcases h with ⟨e, h⟩ | ⟨rfl, hne, h⟩
    · exact .inl ⟨e.symm, Nx.symm ha' hb' h⟩
    · refine .inr ⟨rfl, fun e => hne e.symm, ?_⟩
      rcases h with h | h
      · right; rw [h, Int.emod_sub_emod, show x + 1 - 1 = x by omega, Int.emod_eq_of_lt a0 a1]
      · left; rw [h, Int.emod_add_emod, show x - 1 + 1 = x by omega, Int.emod_eq_of_lt a0 a1]
theorem fi_next {D : Int} (hD : 0 < D) : ∀ (w : Nat) (r : Int), 0 ≤ r → r + 1 < D ^ w → Nx D (fi D w r) (fi D w (r + 1))
  | 0, r, h0, h1 => by rw [Int.pow_zero] at h1; omega
  | w + 1, r, h0, h1 => by
    obtain ⟨q0, q1, y0, y1, e⟩ := parts hD w h0 (show r < D ^ (w + 1) by omega)
    have hp := pw_pos hD w
    generalize hq : r / D ^ w = q at *
    generalize hy : r % D ^ w = y at *
    by_cases hl : y + 1 < D ^ w
    · have dm := divmod (y := y + 1) (q := q) (P := D ^ w) (by omega) hl
      have e' : r + 1 = y + 1 + q * D ^ w := by omega
      have eq' : (r + 1) / D ^ w = q := by rw [e']; exact dm.1
      have ey' : (r + 1) % D ^ w = y + 1 := by rw [e']; exact dm.2
      simp only [fi, hq, hy, eq', ey']
      refine .inl ⟨rfl, ?_⟩
      by_cases hd : q % 2 = 1
      · simp only [hd, if_true]
        have := fi_next hD w (D ^ w - 1 - (y + 1)) (by omega) (by omega)
        rw [show D ^ w - 1 - (y + 1) + 1 = D ^ w - 1 - y by omega] at this
        exact Nx.symm (fi_isD hD w _ (by omega) (by omega)) (fi_isD hD w _ (by omega) (by omega)) this
      · simp only [hd, if_false]
        exact fi_next hD w y y0 hl
    · have dm := divmod (y := 0) (q := q + 1) (P := D ^ w) (by omega) hp
      have e' : r + 1 = 0 + (q + 1) * D ^ w := by rw [Int.add_mul, Int.one_mul]; omega
      have eq' : (r + 1) / D ^ w = q + 1 := by rw [e']; exact dm.1
      have ey' : (r + 1) % D ^ w = 0 := by rw [e']; exact dm.2
      have q2 : q + 1 < D := by
        obtain ⟨_, h, _⟩ := parts hD w (show 0 ≤ r + 1 by omega) h1
        rw [eq'] at h; exact h
      simp only [fi, hq, hy, eq', ey']
      refine .inr ⟨?_, by omega, .inl (Int.emod_eq_of_lt (by omega) q2).symm⟩
      congr 1
      by_cases hd : q % 2 = 1
      · rw [if_pos hd, if_neg (by omega)]; omega
      · rw [if_neg hd, if_pos (by omega)]; omega
/-- Around: the code with the next number has, in the round order, one digit turned by 1. -/
def N1 (D : Int) : List Int → List Int → Prop
  | x :: xs, y :: ys => (x = y ∧ N1 D xs ys) ∨ (xs = ys ∧ y = (x + 1) % D)
  | _, _ => False
theorem df_shift {D : Int} (hD : 1 < D) : ∀ (w : Nat) (p : Int), df D p (cod D w (D ^ w - 1)) = df D (p + 1) (cod D w 0)
  | 0, _ => rfl
  | w + 1, p => by
    have hp := pw_pos (show 0 < D by omega) w
    have e : D ^ (w + 1) - 1 = (D ^ w - 1) + (D - 1) * D ^ w := by
      rw [Int.pow_succ, Int.sub_mul, Int.one_mul, Int.mul_comm D]; omega
    have dm := divmod (y := D ^ w - 1) (q := D - 1) (P := D ^ w) (by omega) (by omega)
    simp only [cod, df]
    rw [show (D ^ (w + 1) - 1) / D ^ w = D - 1 by rw [e]; exact dm.1, Int.zero_ediv, Int.zero_emod, Int.emod_eq_of_lt (by omega) (by omega : D - 1 < D)]
    rw [show cod D w (D ^ (w + 1) - 1) = cod D w (D ^ w - 1) by rw [e, cod_add (by omega)]]
    rw [df_shift hD w (D - 1)]
    have e1 : (D - 1 - p) % D = (0 - (p + 1)) % D := by
      rw [show D - 1 - p = (0 - (p + 1)) + 1 * D by omega, Int.add_mul_emod_self_right]
    have e2 : df D (D - 1 + 1) (cod D w 0) = df D 0 (cod D w 0) := by
      cases w with
      | zero => rfl
      | succ w =>
        simp only [cod, df]
        congr 1
        rw [show D - 1 + 1 = D by omega, Int.zero_ediv, Int.zero_emod, show (0 : Int) - D = 0 + (-1) * D by omega, Int.add_mul_emod_self_right, Int.sub_zero]
    rw [e1, e2]
theorem round_next {D : Int} (hD : 1 < D) : ∀ (w : Nat) (p r : Int), 0 < w → 0 ≤ r → r < D ^ w → N1 D (df D p (cod D w r)) (df D p (cod D w ((r + 1) % D ^ w)))
  | 0, _, _, h, _, _ => absurd h (by omega)
  | w + 1, p, r, _, h0, h1 => by
    have hD0 : 0 < D := by omega
    obtain ⟨q0, q1, y0, y1, e⟩ := parts hD0 w h0 h1
    have hp := pw_pos hD0 w
    generalize hq : r / D ^ w = q at *
    generalize hy : r % D ^ w = y at *
    have ec : cod D w r = cod D w y := by rw [e, cod_add hD0]
    have c1 : cod D (w + 1) r = q :: cod D w y := by simp only [cod, hq, ec, Int.emod_eq_of_lt q0 q1]
    by_cases hl : y + 1 < D ^ w
    · have dm := divmod (y := y + 1) (q := q) (P := D ^ w) (by omega) hl
      have e' : r + 1 = y + 1 + q * D ^ w := by omega
      have hb : q * D ^ w ≤ (D - 1) * D ^ w := Int.mul_le_mul_of_nonneg_right (by omega) (by omega)
      have hc : (D - 1) * D ^ w = D ^ w * D - D ^ w := by rw [Int.sub_mul, Int.one_mul, Int.mul_comm]
      have hb0 : 0 ≤ q * D ^ w := Int.mul_nonneg q0 (by omega)
      have er : (r + 1) % D ^ (w + 1) = r + 1 := Int.emod_eq_of_lt (by omega) (by rw [Int.pow_succ]; omega)
      have c2 : cod D (w + 1) (r + 1) = q :: cod D w (y + 1) := by
        simp only [cod]
        rw [show (r + 1) / D ^ w = q by rw [e']; exact dm.1, Int.emod_eq_of_lt q0 q1, e', cod_add hD0]
      rw [er, c1, c2]
      simp only [df]
      refine .inl ⟨rfl, ?_⟩
      cases w with
      | zero => rw [Int.pow_zero] at hl; omega
      | succ w =>
        have := round_next hD (w + 1) q y (by omega) y0 y1
        rwa [Int.emod_eq_of_lt (by omega) hl] at this
    · have ey : y = D ^ w - 1 := by omega
      have c2 : cod D (w + 1) ((r + 1) % D ^ (w + 1)) = (q + 1) % D :: cod D w 0 := by
        rw [cod_mod hD0]
        have e' : r + 1 = 0 + (q + 1) * D ^ w := by rw [Int.add_mul, Int.one_mul]; omega
        have dm := divmod (y := 0) (q := q + 1) (P := D ^ w) (by omega) hp
        simp only [cod]
        rw [show (r + 1) / D ^ w = q + 1 by rw [e']; exact dm.1, e', cod_add hD0]
      rw [c1, c2]
      simp only [df]
      refine .inr ⟨?_, ?_⟩
      · rw [ey, df_shift hD w q]
        cases w with
        | zero => rfl
        | succ w =>
          simp only [cod, df]
          congr 1
          rw [Int.sub_emod_emod]
      · rw [Int.emod_sub_emod, Int.emod_add_emod, show q - p + 1 = q + 1 - p by omega]
theorem N1.nx {D : Int} (hD : 1 < D) : ∀ {a b : List Int}, IsD D a → N1 D a b → Nx D a b
  | [], [], _, h => h
  | [], _ :: _, _, h => h
  | _ :: _, [], _, h => h
  | x :: xs, y :: ys, ha, h => by
    obtain ⟨⟨a0, a1⟩, ha⟩ := IsD.cons ha
    rcases h with ⟨rfl, h⟩ | ⟨rfl, h⟩
    · exact .inl ⟨rfl, N1.nx hD ha h⟩
    · refine .inr ⟨rfl, ?_, .inl h⟩
      intro e
      by_cases hx : x + 1 < D
      · rw [Int.emod_eq_of_lt (by omega) hx] at h; omega
      · rw [show x + 1 = 0 + 1 * D by omega, Int.add_mul_emod_self_right, Int.zero_emod] at h; omega
end Go.Proofs.Ytijbngmlaggclaa.L
namespace Go.Proofs.Ytijbngmlaggclaa.A
open Go.RowKit Go.Proofs.Ytijbngmlaggclaa.P Go.Proofs.Ytijbngmlaggclaa.B Go.Proofs.Ytijbngmlaggclaa.C Go.Proofs.Ytijbngmlaggclaa.L Go.Proofs.YtijbngmlaggclaaW.PrintWords Go.Proofs.YtijbngmlaggclaaW.PrintLast Go.Proofs.YtijbngmlaggclaaW.PrintMore
set_option linter.unusedVariables false
set_option linter.unusedSimpArgs false
theorem tm {a D : Int} (hD : 0 < D) : Int.tmod (Int.tmod a D + D) D = a % D ∧ 0 < Int.tmod a D + D ∧ Int.tmod a D + D < 2 * D := by
  have key : ∃ t q, Int.tmod a D = t ∧ -D < t ∧ t < D ∧ a = t + q * D := by
    by_cases h : 0 ≤ a
    · refine ⟨a % D, a / D, Int.tmod_eq_emod_of_nonneg h, ?_, Int.emod_lt_of_pos _ hD, ?_⟩
      · have := Int.emod_nonneg a (b := D) (by omega); omega
      · rw [Int.mul_comm, Int.emod_add_mul_ediv]
    · refine ⟨-((-a) % D), -((-a) / D), ?_, ?_, ?_, ?_⟩
      · have e := Int.neg_tmod (a := -a) (b := D)
        rw [Int.neg_neg] at e
        rw [e, Int.tmod_eq_emod_of_nonneg (by omega)]
      · have := Int.emod_lt_of_pos (-a) hD; omega
      · have := Int.emod_nonneg (-a) (b := D) (by omega); omega
      · have := Int.emod_add_mul_ediv (-a) D
        rw [Int.neg_mul, Int.mul_comm]; omega
  obtain ⟨t, q, ht, h1, h2, ha⟩ := key
  refine ⟨?_, by omega, by omega⟩
  rw [ht, Int.tmod_eq_emod_of_nonneg (by omega), Int.add_emod_right, ha, Int.add_mul_emod_self_right]
theorem around_eq {a D : Int} (hD : 1 ≤ D ∧ D ≤ 1000) : impl_around.f a D = some (a % D) := by
  unfold impl_around.f
  obtain ⟨h1, h2, h3⟩ := tm (a := a) (show 0 < D by omega)
  rw [if_neg (by omega), w64 (by omega) (by omega), h1]
theorem l1Mod_eq {a D : Int} (hD : 1 ≤ D ∧ D ≤ 1000) : spec_l1Mod.f a D = some (a % D) := by
  unfold spec_l1Mod.f
  obtain ⟨h1, h2, h3⟩ := tm (a := a) (show 0 < D by omega)
  rw [if_neg (by omega), w64 (by omega) (by omega), h1]
theorem pow_le {D : Int} (h0 : 0 < D) (h : D ≤ 10) : ∀ n : Nat, D ^ n ≤ 10 ^ n
  | 0 => by simp
  | n + 1 => by
    rw [Int.pow_succ, Int.pow_succ]
    have a := pow_le h0 h n
    have p := pw_pos h0 n
    have b : D ^ n * D ≤ D ^ n * 10 := Int.mul_le_mul_of_nonneg_left h (by omega)
    omega
theorem ten_le {n : Nat} (h : n ≤ 15) : (10 : Int) ^ n ≤ 1000000000000000 := by
  have : ((List.range 16).all fun n => decide ((10 : Int) ^ n ≤ 1000000000000000)) = true := by decide +kernel
  rw [List.all_eq_true] at this
  exact of_decide_eq_true (this n (List.mem_range.mpr (by omega)))
theorem pow15 {D : Int} (h0 : 0 < D) (h : D ≤ 10) {n : Nat} (hn : n ≤ 15) : D ^ n ≤ 1000000000000000 := Int.le_trans (pow_le h0 h n) (ten_le hn)
theorem IsD.take {D : Int} {d : List Int} (h : IsD D d) (j : Nat) : IsD D (d.take j) := fun x hx => h x (List.mem_of_mem_take hx)
theorem IsD.drop {D : Int} {d : List Int} (h : IsD D d) (j : Nat) : IsD D (d.drop j) := fun x hx => h x (List.mem_of_mem_drop hx)
theorem IsD.get {D : Int} {d : List Int} (h : IsD D d) {j : Nat} (hj : j < d.length) : 0 ≤ d[j] ∧ d[j] < D := h _ (List.getElem_mem hj)
theorem IsD.append {D : Int} {a b : List Int} (ha : IsD D a) (hb : IsD D b) : IsD D (a ++ b) := by
  intro x hx
  rcases List.mem_append.mp hx with h | h
  · exact ha x h
  · exact hb x h
theorem num_small {D : Int} (hD : 2 ≤ D ∧ D ≤ 10) {d : List Int} (h : IsD D d) (hl : d.length ≤ 15) : 0 ≤ num D d ∧ num D d < 1000000000000000 := by
  have a := num_bd (show 0 < D by omega) d h
  have b := pow15 (show 0 < D by omega) hD.2 hl
  omega
theorem number_ev (W : Int) {D : Int} (hD : 2 ≤ D ∧ D ≤ 10) (s : ByteArray) (hs : s.size ≤ 15) (h : isT D s = true) : Ev (fun k => impl_Lock_number.f k W D s) (num D (digs s)) := by
  unfold impl_Lock_number.f
  refine Ev.bind (digits_ev s (by omega)) ?_
  have hd := digs_isD hD h (W := W)
  have hl : (digs s).length ≤ 15 := by rw [digs_len]; exact hs
  generalize digs s = d at *
  refine ev_loop (g := fun j k => impl_Lock_number.l0 k (num D (d.take j)) d (d.length : Int) (j : Int) W D) d.length ?_ ?_
  · intro j hj ih
    have b := num_small hD (IsD.take hd j) (by rw [List.length_take]; omega)
    have x := IsD.get hd hj
    have hm : num D (d.take j) * D ≤ num D (d.take j) * 10 := Int.mul_le_mul_of_nonneg_left hD.2 b.1
    have hm0 : 0 ≤ num D (d.take j) * D := Int.mul_nonneg b.1 (by omega)
    refine Ev.succ ?_
    simp only [impl_Lock_number.l0, if_pos (show (j : Int) < (d.length : Int) by omega), if_pos (show (0 : Int) ≤ (j : Int) by omega), rd_get d j hj, w64 (x := num D (d.take j) * D) (by omega) (by omega), w64 (x := num D (d.take j) * D + d[j]) (by omega) (by omega), w64 (x := (j : Int) + 1) (by omega) (by omega)]
    rw [List.take_succ_eq_append_getElem hj, num_snoc] at ih
    exact ih
  · refine Ev.succ ?_
    simp only [impl_Lock_number.l0, if_neg (show ¬ ((d.length : Nat) : Int) < (d.length : Int) by omega)]
    rw [List.take_of_length_le (Nat.le_refl _)]
    exact Ev.now _
end Go.Proofs.Ytijbngmlaggclaa.A
namespace Go.Proofs.Ytijbngmlaggclaa.O
open Go.RowKit Go.Proofs.Ytijbngmlaggclaa.P Go.Proofs.Ytijbngmlaggclaa.B Go.Proofs.Ytijbngmlaggclaa.C Go.Proofs.Ytijbngmlaggclaa.L Go.Proofs.Ytijbngmlaggclaa.A Go.Proofs.YtijbngmlaggclaaW.PrintWords Go.Proofs.YtijbngmlaggclaaW.PrintLast Go.Proofs.YtijbngmlaggclaaW.PrintMore
set_option linter.unusedVariables false
set_option linter.unusedSimpArgs false
theorem LK.w {W D : Int} (h : LK W D) : (W.toNat : Int) = W ∧ W.toNat ≤ 6 ∧ 0 < W.toNat := by obtain ⟨h1, h2, _⟩ := h; omega
theorem LK.d {W D : Int} (h : LK W D) : 2 ≤ D ∧ D ≤ 10 := h.2.2
theorem rep_set (m : Nat) (c : List Int) (v : Int) : (List.replicate (m + 1) 0 ++ c).set m v = List.replicate m 0 ++ v :: c := by
  rw [List.replicate_succ', List.append_assoc, List.set_append_right _ _ (by simp), List.length_replicate, Nat.sub_self]
  rfl
theorem div_step {D : Int} (hD : 0 < D) (n : Int) (j : Nat) : n / D ^ j / D = n / D ^ (j + 1) := by
  rw [Int.pow_succ, Int.ediv_ediv_of_nonneg (Int.le_of_lt (pw_pos hD j))]
theorem div_bd {D : Int} (hD : 0 < D) {n : Int} (h0 : 0 ≤ n) (j : Nat) : 0 ≤ n / D ^ j ∧ n / D ^ j ≤ n := by
  have hp := pw_pos hD j
  exact ⟨Int.ediv_nonneg h0 (by omega), Int.ediv_le_self _ h0⟩
theorem whOf_ev {W D : Int} (h : LK W D) {n : Int} (h0 : 0 ≤ n) (h1 : n ≤ 1000000000) : Ev (fun k => spec_whOf.f k W D n) (txt (cod D W.toNat n)) := by
  obtain ⟨hw, hw6, hw0⟩ := LK.w h
  have hD := LK.d h
  have hD0 : 0 < D := by omega
  unfold spec_whOf.f
  simp only [if_pos (show 0 ≤ W by omega), if_pos (show W.toNat ≤ 35184372088832 by omega), w64 (x := W - 1) (by omega) (by omega)]
  have key := ev_loop (g := fun j k => spec_whOf.l0 k (n / D ^ j) (List.replicate (W.toNat - j) 0 ++ cod D j n) ((W.toNat : Int) - 1 - j) W D) (r := txt (cod D W.toNat n)) W.toNat ?_ ?_
  · rw [Int.pow_zero, Int.ediv_one] at key
    simp only [Nat.sub_zero, cod, List.append_nil, hw] at key
    rw [show W - 1 - ((0 : Nat) : Int) = W - 1 by omega] at key
    exact key
  · intro j hj ih
    have db := div_bd hD0 h0 j
    have db1 := div_bd hD0 h0 (j + 1)
    refine Ev.succ ?_
    have e1 : (List.replicate (W.toNat - j) 0 ++ cod D j n).length = W.toNat := by simp [cod_len]; omega
    have e2 : Int.tdiv (n / D ^ j) D = n / D ^ (j + 1) := by rw [Int.tdiv_eq_ediv_of_nonneg db.1, div_step hD0]
    have e3 : Int.tmod (n / D ^ j) D = n / D ^ j % D := Int.tmod_eq_emod_of_nonneg db.1
    have e4 : ((W.toNat : Int) - 1 - j).toNat = W.toNat - (j + 1) := by omega
    simp only [spec_whOf.l0, e1, if_pos (show (W.toNat : Int) - 1 - j ≥ 0 by omega), if_neg (show ¬ D = 0 by omega), if_pos (show (W.toNat : Int) - 1 - j < (W.toNat : Int) by omega), e2, e3, e4,
      w64 (x := n / D ^ (j + 1)) (by omega) (by omega), w64 (x := (W.toNat : Int) - 1 - j - 1) (by omega) (by omega)]
    rw [show W.toNat - j = W.toNat - (j + 1) + 1 by omega, rep_set]
    rw [show (W.toNat : Int) - 1 - j - 1 = (W.toNat : Int) - 1 - ((j + 1 : Nat) : Int) by omega]
    exact ih
  · refine Ev.succ ?_
    simp only [spec_whOf.l0, if_neg (show ¬ ((W.toNat : Int) - 1 - (W.toNat : Int) ≥ 0) by omega), Nat.sub_self, List.replicate_zero, List.nil_append]
    exact Ev.bind (whText_ev _ (by rw [cod_len]; omega) (IsD.mono (cod_isD hD0 _ _) hD.2)) (Ev.now _)
theorem orRank_ev (W D r : Int) : Ev (fun k => spec_orRank.f k W D r) (decide (LK W D ∧ 0 ≤ r ∧ r < cnt W D)) := by
  unfold spec_orRank.f
  simp only [whGood_eq, Option.bind_some]
  by_cases h : LK W D
  · have b := cnt_bd h
    simp only [decide_eq_true h, if_true]
    refine Ev.bind (whCount_ev h) ?_
    simp only [w64 (x := cnt W D - 1) (by omega) (by omega), l1In_eq, Option.bind_some]
    rw [show decide (0 ≤ r ∧ r ≤ cnt W D - 1) = decide (LK W D ∧ 0 ≤ r ∧ r < cnt W D) by rw [decide_eq_decide]; exact ⟨fun g => ⟨h, by omega, by omega⟩, fun g => ⟨g.2.1, by omega⟩⟩]
    exact Ev.now _
  · simp only [decide_eq_false h, Bool.false_eq_true, if_false]
    rw [show decide (LK W D ∧ 0 ≤ r ∧ r < cnt W D) = false by rw [decide_eq_false_iff_not]; exact fun g => h g.1]
    exact Ev.now _
theorem isRank_ev (W D r : Int) : Ev (fun k => impl_isRank.f k W D r) (decide (LK W D ∧ 0 ≤ r ∧ r < cnt W D)) := by
  unfold impl_isRank.f
  simp only [IsLock_eq, Option.bind_some]
  by_cases h : LK W D
  · have b := cnt_bd h
    simp only [decide_eq_true h, if_true]
    refine Ev.bind (count_ev h) ?_
    simp only [w64 (x := cnt W D - 1) (by omega) (by omega), within_eq, Option.bind_some]
    rw [show decide (0 ≤ r ∧ r ≤ cnt W D - 1) = decide (LK W D ∧ 0 ≤ r ∧ r < cnt W D) by rw [decide_eq_decide]; exact ⟨fun g => ⟨h, by omega, by omega⟩, fun g => ⟨g.2.1, by omega⟩⟩]
    exact Ev.now _
  · simp only [decide_eq_false h, Bool.false_eq_true, if_false]
    rw [show decide (LK W D ∧ 0 ≤ r ∧ r < cnt W D) = false by rw [decide_eq_false_iff_not]; exact fun g => h g.1]
    exact Ev.now _
theorem orForth_ev {W D : Int} (h : LK W D) {r : Int} (h0 : 0 ≤ r) (h1 : r < cnt W D) : Ev (fun k => spec_orForth.f k W D r) (txt (fi D W.toNat r)) := by
  obtain ⟨hw, hw6, hw0⟩ := LK.w h
  have hD := LK.d h
  have hD0 : 0 < D := by omega
  have cb := cnt_bd h
  unfold spec_orForth.f
  refine Ev.bind (whOf_ev h h0 (by omega)) (Ev.bind (whDigits_ev _ (by rw [txt_size, cod_len]; omega)) ?_)
  have hd : IsD D (cod D W.toNat r) := cod_isD hD0 _ _
  rw [digs_txt (IsD.mono hd hD.2)]
  have e0 := ff_fi hD0 W.toNat 0 r h0 h1
  simp only [show ¬ ((0 : Int) % 2 = 1) by omega, if_false] at e0
  rw [← e0]
  have hl : (cod D W.toNat r).length = W.toNat := cod_len _ _ _
  have hff : ∀ s, IsD D (ff D s (cod D W.toNat r)) := by
    intro s
    have : ∀ (d : List Int) (s : Int), IsD D d → IsD D (ff D s d) := by
      intro d
      induction d with
      | nil => intro s _; exact IsD.nil
      | cons x xs ih =>
        intro s hx
        obtain ⟨hx, hs⟩ := IsD.cons hx
        refine IsD.mk ?_ (ih _ hs)
        split <;> omega
    exact this _ s hd
  generalize hg : cod D W.toNat r = d at *
  have key : ∀ (m j : Nat) (s : Int) (out : List Int), d.length - j = m → j ≤ d.length → out.length = j → 0 ≤ s → s < 10 ^ j → out ++ ff D s (d.drop j) = ff D 0 d → Ev (fun k => spec_orForth.l0 k d s out d (d.length : Int) (j : Int) W D) (txt (ff D 0 d)) := by
    intro m
    induction m with
    | zero =>
      intro j s out hm hj ho hs0 hs1 he
      obtain rfl : j = d.length := by omega
      rw [List.drop_of_length_le (Nat.le_refl _)] at he
      simp only [ff, List.append_nil] at he
      refine Ev.succ ?_
      simp only [spec_orForth.l0, if_neg (show ¬ ((d.length : Nat) : Int) < (d.length : Int) by omega), he]
      exact Ev.bind (whText_ev _ (by rw [← he]; omega) (IsD.mono (hff 0) hD.2)) (Ev.now _)
    | succ m ih =>
      intro j s out hm hj ho hs0 hs1 he
      have hj' : j < d.length := by omega
      have x := IsD.get hd hj'
      have t15 := ten_le (n := j) (by omega)
      have hb : s * D ≤ s * 10 := Int.mul_le_mul_of_nonneg_left hD.2 hs0
      have hb0 : 0 ≤ s * D := Int.mul_nonneg hs0 (by omega)
      have hnx : s * D + d[j] < 10 ^ (j + 1) := by rw [Int.pow_succ]; omega
      rw [List.drop_eq_getElem_cons hj', ff] at he
      refine Ev.succ ?_
      by_cases hp : s % 2 = 1
      · have ih' := ih (j + 1) (s * D + d[j]) (out ++ [D - 1 - d[j]]) (by omega) (by omega) (by simp [ho]) (by omega) hnx (by rw [List.append_assoc]; rw [if_pos hp] at he; exact he)
        simp only [spec_orForth.l0, if_pos (show (j : Int) < (d.length : Int) by omega), if_pos (show (0 : Int) ≤ (j : Int) by omega), Int.tmod_eq_emod_of_nonneg hs0, if_pos hp, ho, if_pos (show j < 17592186044416 by omega),
          w64 (x := D - 1) (by omega) (by omega), rd_get d j hj', w64 (x := D - 1 - d[j]) (by omega) (by omega), Option.bind_some, List.length_append, List.length_singleton,
          show (((j + 1 : Nat) : Int) - 1) = (j : Int) by omega, w64 (x := (j : Int)) (by omega) (by omega), w64 (x := s * D) (by omega) (by omega), w64 (x := s * D + d[j]) (by omega) (by omega), w64 (x := (j : Int) + 1) (by omega) (by omega)]
        exact ih'
      · have ih' := ih (j + 1) (s * D + d[j]) (out ++ [d[j]]) (by omega) (by omega) (by simp [ho]) (by omega) hnx (by rw [List.append_assoc]; rw [if_neg hp] at he; exact he)
        simp only [spec_orForth.l0, if_pos (show (j : Int) < (d.length : Int) by omega), if_pos (show (0 : Int) ≤ (j : Int) by omega), Int.tmod_eq_emod_of_nonneg hs0, if_neg hp, ho, if_pos (show j < 17592186044416 by omega),
          rd_get d j hj', Option.bind_some, List.length_append, List.length_singleton,
          show (((j + 1 : Nat) : Int) - 1) = (j : Int) by omega, w64 (x := (j : Int)) (by omega) (by omega), w64 (x := s * D) (by omega) (by omega), w64 (x := s * D + d[j]) (by omega) (by omega), w64 (x := (j : Int) + 1) (by omega) (by omega)]
        exact ih'
  have := key d.length 0 0 [] (by omega) (by omega) rfl (by omega) (by simp) (by simp)
  simpa using this
theorem forth_ev {W D : Int} (h : LK W D) {r : Int} (h0 : 0 ≤ r) (h1 : r < cnt W D) : Ev (fun k => impl_Lock_forth.f k W D r) (txt (fi D W.toNat r)) := by
  obtain ⟨hw, hw6, hw0⟩ := LK.w h
  have hD := LK.d h
  have hD0 : 0 < D := by omega
  have cb := cnt_bd h
  unfold impl_Lock_forth.f
  refine Ev.bind (count_ev h) ?_
  have key : ∀ (w i : Nat) (r : Int) (out : List Int), i + w = W.toNat → out.length = i → IsD D out → 0 ≤ r → r < D ^ w → Ev (fun k => impl_Lock_forth.l0 k r out (D ^ w) W (i : Int) W D) (txt (out ++ fi D w r)) := by
    intro w
    induction w with
    | zero =>
      intro i r out hi ho hD' hr0 hr1
      refine Ev.succ ?_
      simp only [impl_Lock_forth.l0, if_neg (show ¬ (i : Int) < W by omega), fi, List.append_nil]
      exact Ev.bind (text_ev _ (by omega) (IsD.mono hD' hD.2)) (Ev.now _)
    | succ w ih =>
      intro i r out hi ho hD' hr0 hr1
      obtain ⟨q0, q1, y0, y1, e⟩ := parts hD0 w hr0 hr1
      have hp := pw_pos hD0 w
      have hp15 := pow15 hD0 hD.2 (n := w) (by omega)
      have hp16 := pow15 hD0 hD.2 (n := w + 1) (by omega)
      have es : Int.tdiv (D ^ (w + 1)) D = D ^ w := by
        rw [Int.tdiv_eq_ediv_of_nonneg (Int.le_of_lt (pw_pos hD0 _)), Int.pow_succ, Int.mul_ediv_cancel _ (by omega)]
      have eq_ : Int.tdiv r (D ^ w) = r / D ^ w := Int.tdiv_eq_ediv_of_nonneg hr0
      have ey_ : Int.tmod r (D ^ w) = r % D ^ w := Int.tmod_eq_emod_of_nonneg hr0
      refine Ev.succ ?_
      simp only [impl_Lock_forth.l0, if_pos (show (i : Int) < W by omega), if_neg (show ¬ D = 0 by omega), es, w64 (x := D ^ w) (by omega) (by omega), if_neg (show ¬ D ^ w = 0 by omega), eq_, ey_,
        w64 (x := r / D ^ w) (by omega) (by omega), Int.tmod_eq_emod_of_nonneg q0, ho, if_pos (show i < 17592186044416 by omega), w64 (x := (i : Int) + 1) (by omega) (by omega), w64 (x := D ^ w - 1) (by omega) (by omega), w64 (x := D ^ w - 1 - r % D ^ w) (by omega) (by omega)]
      simp only [fi]
      have hD2 : IsD D (out ++ [r / D ^ w]) := IsD.append hD' (IsD.mk ⟨q0, q1⟩ IsD.nil)
      by_cases hq : r / D ^ w % 2 = 1
      · simp only [hq, if_true]
        have := ih (i + 1) (D ^ w - 1 - r % D ^ w) (out ++ [r / D ^ w]) (by omega) (by simp [ho]) hD2 (by omega) (by omega)
        rw [List.append_assoc] at this
        exact this
      · simp only [hq, if_false]
        have := ih (i + 1) (r % D ^ w) (out ++ [r / D ^ w]) (by omega) (by simp [ho]) hD2 y0 y1
        rw [List.append_assoc] at this
        exact this
  have := key W.toNat 0 r [] (by omega) rfl IsD.nil h0 h1
  simpa [cnt] using this
/-- The text of a code, by its digits. -/
theorem codeOf {W D : Int} (h : LK W D) {s : ByteArray} (hc : isC W D s = true) : (digs s).length = W.toNat ∧ IsD D (digs s) ∧ txt (digs s) = s := by
  have z := isC_size hc
  refine ⟨by rw [digs_len]; omega, digs_isD (W := W) (LK.d h) (isC_isT hc), txt_digs (LK.d h) (isC_isT hc)⟩
theorem ps_snoc (D : Int) : ∀ (d : List Int) (s : Int) (j : Nat) (hj : j + 1 < d.length), (ps D s d)[j + 1]'(by rw [ps_len]; exact hj) = ((ps D s d)[j]'(by rw [ps_len]; omega) + d[j + 1]) % D
  | [], _, _, hj => absurd hj (by simp)
  | [x], _, _, hj => absurd hj (by simp)
  | x :: y :: ys, s, 0, hj => rfl
  | x :: y :: ys, s, j + 1, hj => by
    have := ps_snoc D (y :: ys) ((s + x) % D) j (by simpa using hj)
    simpa only [ps, List.getElem_cons_succ] using this
theorem specRoundRank_ev {W D : Int} (h : LK W D) {s : ByteArray} (hc : isC W D s = true) : Ev (fun k => spec_RoundRank.f k W D s) (num D (ps D 0 (digs s)), true) := by
  obtain ⟨hw, hw6, hw0⟩ := LK.w h
  have hD := LK.d h
  have hD0 : 0 < D := by omega
  have z := isC_size hc
  obtain ⟨hl, hd, ht⟩ := codeOf h hc
  unfold spec_RoundRank.f
  refine Ev.bind (whAsked_ev W D s (by omega)) ?_
  simp only [decide_eq_true h, hc, Bool.and_self, if_true]
  refine Ev.bind (whDigits_ev s (by omega)) ?_
  generalize digs s = d at *
  have key : ∀ (m j : Nat) (s r : Int), d.length - j = m → j ≤ d.length → 0 ≤ s → s < D → 0 ≤ r → r < 10 ^ j → r * D ^ m + num D (ps D s (d.drop j)) = num D (ps D 0 d) → Ev (fun k => spec_RoundRank.l0 k s r d (d.length : Int) (j : Int) W D) (num D (ps D 0 d), true) := by
    intro m
    induction m with
    | zero =>
      intro j s r hm hj _ _ hr0 hr1 he
      obtain rfl : j = d.length := by omega
      rw [List.drop_of_length_le (Nat.le_refl _)] at he
      simp only [ps, num, Int.pow_zero, Int.mul_one, Int.add_zero] at he
      refine Ev.succ ?_
      simp only [spec_RoundRank.l0, if_neg (show ¬ ((d.length : Nat) : Int) < (d.length : Int) by omega), he]
      exact Ev.now _
    | succ m ih =>
      intro j s r hm hj hs0 hs1 hr0 hr1 he
      have hj' : j < d.length := by omega
      have x := IsD.get hd hj'
      have t15 := ten_le (n := j) (by omega)
      have hb : r * D ≤ r * 10 := Int.mul_le_mul_of_nonneg_left hD.2 hr0
      have hb0 : 0 ≤ r * D := Int.mul_nonneg hr0 (by omega)
      have e0 := Int.emod_nonneg (s + d[j]) (b := D) (by omega)
      have e1 := Int.emod_lt_of_pos (s + d[j]) hD0
      rw [List.drop_eq_getElem_cons hj', ps, num, ps_len, List.length_drop, show d.length - (j + 1) = m by omega] at he
      refine Ev.succ ?_
      simp only [spec_RoundRank.l0, if_pos (show (j : Int) < (d.length : Int) by omega), if_pos (show (0 : Int) ≤ (j : Int) by omega), if_neg (show ¬ D = 0 by omega), rd_get d j hj', w64 (x := s + d[j]) (by omega) (by omega),
        Int.tmod_eq_emod_of_nonneg (show 0 ≤ s + d[j] by omega), w64 (x := r * D) (by omega) (by omega), w64 (x := r * D + (s + d[j]) % D) (by omega) (by omega), w64 (x := (j : Int) + 1) (by omega) (by omega)]
      refine ih (j + 1) _ _ (by omega) (by omega) e0 e1 (by omega) (by rw [Int.pow_succ]; omega) ?_
      rw [← he, Int.pow_succ, Int.add_mul, Int.mul_assoc, Int.mul_comm D, Int.add_assoc]
  refine key d.length 0 0 0 (by omega) (by omega) (by omega) (by omega) (by omega) (by simp) ?_
  simp
theorem roundRank_ev {W D : Int} (h : LK W D) {s : ByteArray} (hc : isC W D s = true) : Ev (fun k => impl_Lock_roundRank.f k W D s) (num D (ps D 0 (digs s))) := by
  obtain ⟨hw, hw6, hw0⟩ := LK.w h
  have hD := LK.d h
  have hD0 : 0 < D := by omega
  have z := isC_size hc
  obtain ⟨hl, hd, ht⟩ := codeOf h hc
  unfold impl_Lock_roundRank.f
  refine Ev.bind (digits_ev s (by omega)) ?_
  generalize digs s = d at *
  have hpl : (ps D 0 d).length = d.length := ps_len _ _ _
  have hps : IsD D (ps D 0 d) := ps_isD hD0 _ _
  have key : ∀ (m j : Nat), d.length - j = m → 1 ≤ j → j ≤ d.length → Ev (fun k => impl_Lock_roundRank.l0 k ((ps D 0 d).take j ++ d.drop j) (j : Int) W D) (num D (ps D 0 d)) := by
    intro m
    induction m with
    | zero =>
      intro j hm h1 hj
      obtain rfl : j = d.length := by omega
      refine Ev.succ ?_
      rw [List.drop_of_length_le (Nat.le_refl _), List.append_nil, List.take_of_length_le (by omega)]
      simp only [impl_Lock_roundRank.l0, hpl, if_neg (show ¬ ((d.length : Nat) : Int) < (d.length : Int) by omega)]
      refine Ev.bind (text_ev _ (by omega) (IsD.mono hps hD.2)) (Ev.bind (number_ev W hD _ (by rw [txt_size]; omega) (txt_isT hD hps)) ?_)
      rw [digs_txt (IsD.mono hps hD.2)]
      exact Ev.now _
    | succ m ih =>
      intro j hm h1 hj
      have hj' : j < d.length := by omega
      have hlen : ((ps D 0 d).take j ++ d.drop j).length = d.length := by simp [hpl]; omega
      have hlt : ((ps D 0 d).take j).length = j := by rw [List.length_take]; omega
      have x := IsD.get hd hj'
      have y := IsD.get hps (show j - 1 < (ps D 0 d).length by omega)
      have r1 : rd ((ps D 0 d).take j ++ d.drop j) (j : Int) = d[j] := by
        rw [rd_get _ j (by omega), List.getElem_append_right (by omega)]
        simp only [hlt, Nat.sub_self, List.getElem_drop, Nat.add_zero]
      have r2 : rd ((ps D 0 d).take j ++ d.drop j) ((j : Int) - 1) = (ps D 0 d)[j - 1]'(by omega) := by
        rw [show (j : Int) - 1 = ((j - 1 : Nat) : Int) by omega, rd_get _ (j - 1) (by omega), List.getElem_append_left (by omega), List.getElem_take]
      have e := ps_snoc D d 0 (j - 1) (by omega)
      simp only [show j - 1 + 1 = j by omega] at e
      refine Ev.succ ?_
      simp only [impl_Lock_roundRank.l0, hlen, if_pos (show (j : Int) < (d.length : Int) by omega), if_pos (show (0 : Int) ≤ (j : Int) by omega), w64 (x := (j : Int) - 1) (by omega) (by omega), if_pos (show (0 : Int) ≤ (j : Int) - 1 by omega), if_pos (show (j : Int) - 1 < (d.length : Int) by omega),
        r1, r2, w64 (x := d[j] + (ps D 0 d)[j - 1]'(by omega)) (by omega) (by omega), around_eq (D := D) (by omega), Option.bind_some, w64 (x := (j : Int) + 1) (by omega) (by omega)]
      have es : ((ps D 0 d).take j ++ d.drop j).set (j : Int).toNat ((d[j] + (ps D 0 d)[j - 1]'(by omega)) % D) = (ps D 0 d).take (j + 1) ++ d.drop (j + 1) := by
        rw [Int.toNat_natCast, List.set_append_right _ _ (by omega), hlt, Nat.sub_self, List.drop_eq_getElem_cons hj', List.set_cons_zero, List.take_succ_eq_append_getElem (show j < (ps D 0 d).length by omega), List.append_assoc, Int.add_comm, ← e]
        rfl
      rw [es]
      exact ih (j + 1) (by omega) (by omega) (by omega)
  have hh : (ps D 0 d).take 1 ++ d.drop 1 = d := by
    cases d with
    | nil => rfl
    | cons a as_ =>
      obtain ⟨⟨a0, a1⟩, _⟩ := IsD.cons hd
      simp only [ps, List.take_succ_cons, List.take_zero, List.drop_succ_cons, List.drop_zero, Int.zero_add, Int.emod_eq_of_lt a0 a1, List.cons_append, List.nil_append]
  have := key (d.length - 1) 1 rfl (by omega) (by omega)
  rw [hh] at this
  exact this
end Go.Proofs.Ytijbngmlaggclaa.O
namespace Go.Proofs.Ytijbngmlaggclaa.OF
open Go.RowKit Go.Proofs.Ytijbngmlaggclaa.P Go.Proofs.Ytijbngmlaggclaa.B Go.Proofs.Ytijbngmlaggclaa.C Go.Proofs.Ytijbngmlaggclaa.L Go.Proofs.Ytijbngmlaggclaa.A Go.Proofs.Ytijbngmlaggclaa.O Go.Proofs.YtijbngmlaggclaaW.PrintWords Go.Proofs.YtijbngmlaggclaaW.PrintLast Go.Proofs.YtijbngmlaggclaaW.PrintMore
set_option linter.unusedVariables false
set_option linter.unusedSimpArgs false
theorem has1 (W D : Int) (s : ByteArray) (hs : s.size ≤ 140737488351232) : Ev (fun k => impl_has.f k W D [s]) (decide (LK W D) && isC W D s) := by
  have := has_ev W D [s] (by simp) (by intro x hx; rw [List.mem_singleton.mp hx]; exact hs)
  simpa using this
theorem specForthRank_ev {W D : Int} (h : LK W D) {s : ByteArray} (hc : isC W D s = true) : Ev (fun k => spec_ForthRank.f k W D s) (fb D (digs s), true) := by
  obtain ⟨hw, hw6, hw0⟩ := LK.w h
  have hD := LK.d h
  have hD0 : 0 < D := by omega
  have z := isC_size hc
  obtain ⟨hl, hd, ht⟩ := codeOf h hc
  unfold spec_ForthRank.f
  refine Ev.bind (whAsked_ev W D s (by omega)) ?_
  simp only [decide_eq_true h, hc, Bool.and_self, if_true]
  refine Ev.bind (whDigits_ev s (by omega)) ?_
  have e0 : fb D (digs s) = fr D 0 (digs s) := by rw [fr_fb hD0]; simp
  rw [e0]
  clear e0 ht
  generalize digs s = d at *
  have key : ∀ (m j : Nat) (r : Int), d.length - j = m → j ≤ d.length → 0 ≤ r → r < 10 ^ j → fr D r (d.drop j) = fr D 0 d → Ev (fun k => spec_ForthRank.l0 k r d (d.length : Int) (j : Int) W D) (fr D 0 d, true) := by
    intro m
    induction m with
    | zero =>
      intro j r hm hj hr0 hr1 he
      obtain rfl : j = d.length := by omega
      rw [List.drop_of_length_le (Nat.le_refl _)] at he
      simp only [fr] at he
      refine Ev.succ ?_
      simp only [spec_ForthRank.l0, if_neg (show ¬ ((d.length : Nat) : Int) < (d.length : Int) by omega), he]
      exact Ev.now _
    | succ m ih =>
      intro j r hm hj hr0 hr1 he
      have hj' : j < d.length := by omega
      have x := IsD.get hd hj'
      have t15 := ten_le (n := j) (by omega)
      have hb : r * D ≤ r * 10 := Int.mul_le_mul_of_nonneg_left hD.2 hr0
      have hb0 : 0 ≤ r * D := Int.mul_nonneg hr0 (by omega)
      rw [List.drop_eq_getElem_cons hj', fr] at he
      have pa : Int.tmod r 2 = r % 2 := Int.tmod_eq_emod_of_nonneg hr0
      refine Ev.succ ?_
      simp only [spec_ForthRank.l0, if_pos (show (j : Int) < (d.length : Int) by omega), if_pos (show (0 : Int) ≤ (j : Int) by omega), rd_get d j hj', pa, w64 (x := (j : Int) + 1) (by omega) (by omega)]
      by_cases hp : r % 2 = 1
      · rw [if_pos hp] at he
        simp only [hp, if_true, w64 (x := D - 1) (by omega) (by omega), w64 (x := D - 1 - d[j]) (by omega) (by omega), w64 (x := r * D) (by omega) (by omega), w64 (x := r * D + (D - 1 - d[j])) (by omega) (by omega)]
        exact ih (j + 1) _ (by omega) (by omega) (by omega) (by rw [Int.pow_succ]; omega) he
      · rw [if_neg hp] at he
        simp only [hp, if_false, w64 (x := r * D) (by omega) (by omega), w64 (x := r * D + d[j]) (by omega) (by omega)]
        exact ih (j + 1) _ (by omega) (by omega) (by omega) (by rw [Int.pow_succ]; omega) he
  exact key d.length 0 0 (by omega) (by omega) (by omega) (by omega) (by simp)
theorem fold_fb {D : Int} (hD : 2 ≤ D ∧ D ≤ 10) : ∀ d : List Int, IsD D d → d.length ≤ 14 → d.reverse.foldl (impl_Lock_forthRank.stp D) (0, 1) = (fb D d, D ^ d.length)
  | [], _, _ => by simp [fb]
  | x :: xs, h, hl => by
    obtain ⟨⟨h0, h1⟩, hs⟩ := IsD.cons h
    rw [List.length_cons] at hl
    have ih := fold_fb hD xs hs (by omega)
    have b := fb_bd (show 0 < D by omega) xs hs
    have p15 := pow15 (show 0 < D by omega) hD.2 (show xs.length ≤ 15 by omega)
    have p16 := pow15 (show 0 < D by omega) hD.2 (show xs.length + 1 ≤ 15 by omega)
    have hp := pw_pos (show 0 < D by omega) xs.length
    have a : x * D ^ xs.length ≤ (D - 1) * D ^ xs.length := Int.mul_le_mul_of_nonneg_right (by omega) (by omega)
    have a0 : 0 ≤ x * D ^ xs.length := Int.mul_nonneg h0 (by omega)
    have c : (D - 1) * D ^ xs.length = D ^ xs.length * D - D ^ xs.length := by rw [Int.sub_mul, Int.one_mul, Int.mul_comm]
    rw [Int.pow_succ] at p16
    rw [List.reverse_cons, List.foldl_append, ih]
    simp only [List.foldl_cons, List.foldl_nil, impl_Lock_forthRank.stp, fb, List.length_cons, Int.pow_succ, Int.tmod_eq_emod_of_nonneg h0]
    by_cases hx : x % 2 = 1
    · simp only [hx, if_true, w64 (x := D ^ xs.length - 1) (by omega) (by omega), w64 (x := D ^ xs.length - 1 - fb D xs) (by omega) (by omega), w64 (x := x * D ^ xs.length) (by omega) (by omega), w64 (x := D ^ xs.length - 1 - fb D xs + x * D ^ xs.length) (by omega) (by omega), w64 (x := D ^ xs.length * D) (by omega) (by omega)]
      rw [Int.add_comm]
    · simp only [hx, if_false, w64 (x := x * D ^ xs.length) (by omega) (by omega), w64 (x := fb D xs + x * D ^ xs.length) (by omega) (by omega), w64 (x := D ^ xs.length * D) (by omega) (by omega)]
      rw [Int.add_comm]
theorem forthRank_ev {W D : Int} (h : LK W D) {s : ByteArray} (hc : isC W D s = true) : Ev (fun k => impl_Lock_forthRank.f k W D s) (fb D (digs s)) := by
  obtain ⟨hw, hw6, hw0⟩ := LK.w h
  have hD := LK.d h
  have z := isC_size hc
  obtain ⟨hl, hd, ht⟩ := codeOf h hc
  unfold impl_Lock_forthRank.f
  refine Ev.bind (digits_ev s (by omega)) ?_
  simp only [if_pos (show (digs s).length * 8 ≤ 140737488351232 by omega), fold_fb hD (digs s) hd (by omega)]
  exact Ev.now _
/-- Both, whatever is given. -/
theorem bothForthRank (W D : Int) (s : ByteArray) (hs : s.size ≤ 140737488351232) : ∃ r : Int × Bool, Ev (fun k => spec_ForthRank.f k W D s) r ∧ Ev (fun k => impl_ForthRank.f k W D s) r ∧ r = if LK W D ∧ isC W D s = true then (fb D (digs s), true) else (0, false) := by
  by_cases h : LK W D ∧ isC W D s = true
  · rw [if_pos h]
    refine ⟨_, specForthRank_ev h.1 h.2, ?_, rfl⟩
    unfold impl_ForthRank.f
    refine Ev.bind (has1 W D s hs) ?_
    simp only [decide_eq_true h.1, h.2, Bool.and_self, if_true]
    exact Ev.bind (forthRank_ev h.1 h.2) (Ev.now _)
  · have e : (decide (LK W D) && isC W D s) = false := by
      rw [Bool.and_eq_false_iff]
      by_cases g : LK W D
      · right; rw [← Bool.not_eq_true]; exact fun q => h ⟨g, q⟩
      · left; exact decide_eq_false g
    rw [if_neg h]
    refine ⟨(0, false), ?_, ?_, rfl⟩
    · unfold spec_ForthRank.f
      refine Ev.bind (whAsked_ev W D s hs) ?_
      simp only [e, Bool.false_eq_true, if_false]; exact Ev.now _
    · unfold impl_ForthRank.f
      refine Ev.bind (has1 W D s hs) ?_
      simp only [e, Bool.false_eq_true, if_false]; exact Ev.now _
end Go.Proofs.Ytijbngmlaggclaa.OF
namespace Go.Proofs.Ytijbngmlaggclaa.O2
open Go.RowKit Go.Proofs.Ytijbngmlaggclaa.P Go.Proofs.Ytijbngmlaggclaa.B Go.Proofs.Ytijbngmlaggclaa.C Go.Proofs.Ytijbngmlaggclaa.L Go.Proofs.Ytijbngmlaggclaa.A Go.Proofs.Ytijbngmlaggclaa.O Go.Proofs.YtijbngmlaggclaaW.PrintWords Go.Proofs.YtijbngmlaggclaaW.PrintLast Go.Proofs.YtijbngmlaggclaaW.PrintMore
set_option linter.unusedVariables false
set_option linter.unusedSimpArgs false
/-- Where two codes at the distance 1 part. -/
theorem nx_at {D : Int} : ∀ {a b : List Int}, a.length = b.length → Nx D a b → ∃ i, ∃ (hi : i < a.length) (hb : i < b.length), a[i] ≠ b[i] ∧ (∀ j, j < i → a[j]? = b[j]?) ∧ ((b[i] = (a[i] + 1) % D ∧ b = a.set i ((a[i] + 1) % D)) ∨ (b[i] ≠ (a[i] + 1) % D ∧ b = a.set i ((a[i] - 1) % D)))
  | [], [], _, h => h.elim
  | [], _ :: _, _, h => h.elim
  | _ :: _, [], _, h => h.elim
  | x :: xs, y :: ys, hl, h => by
    rcases h with ⟨rfl, h⟩ | ⟨rfl, hne, h⟩
    · obtain ⟨i, hi, hb, h1, h2, h3⟩ := nx_at (by simpa using hl) h
      refine ⟨i + 1, by simpa using hi, by simpa using hb, by simpa using h1, ?_, ?_⟩
      · intro j hj
        cases j with
        | zero => rfl
        | succ j => simpa using h2 j (by omega)
      · simpa using h3
    · refine ⟨0, by simp, by simp, by simpa using hne, fun j hj => by omega, ?_⟩
      by_cases e : y = (x + 1) % D
      · left; simp [e]
      · right; rcases h with h | h
        · exact absurd h e
        · exact ⟨by simpa using e, by simp [h]⟩
def trn (m : Nat) : S32 := ⟨((m / 2 : Nat) : Int), if m % 2 = 0 then 1 else -1⟩
def trns (W : Nat) : List S32 := (List.range (2 * W)).map trn
theorem turns_ev {W : Nat} (h : W ≤ 6) : Ev (fun k => impl_turns.f k (W : Int)) (trns W) := by
  have : W = 0 ∨ W = 1 ∨ W = 2 ∨ W = 3 ∨ W = 4 ∨ W = 5 ∨ W = 6 := by omega
  rcases this with rfl | rfl | rfl | rfl | rfl | rfl | rfl <;> exact Ev.of (fun k => impl_turns.mono _ k) (k := 10) (by kernel_rfl)
def tur (D : Int) (i : Nat) (by_ : Int) (a : List Int) : List Int := a.set i ((a.getD i 0 + by_) % D)
theorem tur_isD {D : Int} (hD : 0 < D) {a : List Int} (h : IsD D a) (i : Nat) (e : Int) : IsD D (tur D i e a) := by
  intro x hx
  unfold tur at hx
  rcases List.mem_or_eq_of_mem_set hx with hx | rfl
  · exact h x hx
  · exact ⟨Int.emod_nonneg _ (by omega), Int.emod_lt_of_pos _ hD⟩
theorem tur_len (D : Int) (i : Nat) (e : Int) (a : List Int) : (tur D i e a).length = a.length := by simp [tur]
theorem turned_ev {W D : Int} (hD : 2 ≤ D ∧ D ≤ 10) {a : List Int} (ha : IsD D a) (hl : a.length ≤ 1000) {i : Nat} (hi : i < a.length) {e : Int} (he : -1000 ≤ e ∧ e ≤ 1000) :
    Ev (fun k => impl_Lock_turned.f k W D (txt a) (i : Int) e) (txt (tur D i e a)) := by
  unfold impl_Lock_turned.f
  refine Ev.bind (digits_ev _ (by rw [txt_size]; omega)) ?_
  rw [digs_txt (IsD.mono ha hD.2)]
  have x := IsD.get ha hi
  have g : a.getD i 0 = a[i] := by rw [List.getD_eq_getElem?_getD, List.getElem?_eq_getElem hi]; rfl
  simp only [if_pos (show (0 : Int) ≤ (i : Int) by omega), if_pos (show (i : Int) < (a.length : Int) by omega), rd_get a i hi, w64 (x := a[i] + e) (by omega) (by omega), around_eq (D := D) (by omega), Option.bind_some, Int.toNat_natCast]
  have t := text_ev (tur D i e a) (by rw [tur_len]; omega) (IsD.mono (tur_isD (by omega) ha i e) hD.2)
  unfold tur at t ⊢
  rw [g] at t ⊢
  exact Ev.bind t (Ev.now _)
theorem toList_inj {s t : ByteArray} : s.toList = t.toList ↔ s = t := by
  constructor
  · intro h
    rw [ByteArray.toList_eq, ByteArray.toList_eq] at h
    exact ByteArray.ext (Array.ext' h)
  · exact fun h => by rw [h]
/-- The first turn that leads from one code to another one: its wheel and how far. -/
theorem orTurn_ev {W D : Int} (hD : 2 ≤ D ∧ D ≤ 10) {a b : List Int} (ha : IsD D a) (hb : IsD D b) (hl : a.length ≤ 1000) (hlb : b.length ≤ 1000) {i : Nat} (hi : i < a.length) (hib : i < b.length)
    (hne : a[i] ≠ b[i]) (hj : ∀ j, j < i → a[j]? = b[j]?) :
    Ev (fun k => spec_orTurn.f k W D (txt a) (txt b)) ((i : Int), if (a[i] + 1) % D = b[i] then 1 else -1) := by
  unfold spec_orTurn.f
  refine Ev.bind (whDigits_ev _ (by rw [txt_size]; omega)) (Ev.bind (whDigits_ev _ (by rw [txt_size]; omega)) ?_)
  rw [digs_txt (IsD.mono ha hD.2), digs_txt (IsD.mono hb hD.2)]
  refine ev_loop (g := fun j k => spec_orTurn.l0 k a b (a.length : Int) (j : Int) W D) i ?_ ?_
  · intro j hji ih
    have e := hj j hji
    rw [List.getElem?_eq_getElem (by omega), List.getElem?_eq_getElem (by omega)] at e
    have e' := Option.some.inj e
    refine Ev.succ ?_
    simp only [spec_orTurn.l0, if_pos (show (j : Int) < (a.length : Int) by omega), if_pos (show (0 : Int) ≤ (j : Int) by omega), if_pos (show (j : Int) < (b.length : Int) by omega), rd_get a j (by omega), rd_get b j (by omega), if_pos e', w64 (x := (j : Int) + 1) (by omega) (by omega)]
    exact ih
  · have x := IsD.get ha hi
    refine Ev.succ ?_
    simp only [spec_orTurn.l0, if_pos (show (i : Int) < (a.length : Int) by omega), if_pos (show (0 : Int) ≤ (i : Int) by omega), if_pos (show (i : Int) < (b.length : Int) by omega), rd_get a i hi, rd_get b i hib, if_neg hne, w64 (x := a[i] + 1) (by omega) (by omega), l1Mod_eq (D := D) (by omega), Option.bind_some]
    split
    · exact Ev.now _
    · exact Ev.now _
theorem between_ev {W D : Int} (h : LK W D) {a b : List Int} (ha : IsD D a) (hb : IsD D b) (hl : a.length = W.toNat) (hlb : b.length = W.toNat) {i : Nat} (hi : i < a.length) (hib : i < b.length)
    (hne : a[i] ≠ b[i]) (hj : ∀ j, j < i → a[j]? = b[j]?) (hset : (b[i] = (a[i] + 1) % D ∧ b = a.set i ((a[i] + 1) % D)) ∨ (b[i] ≠ (a[i] + 1) % D ∧ b = a.set i ((a[i] - 1) % D))) :
    Ev (fun k => impl_Lock_between.f k W D (txt a) (txt b)) ((i : Int), (if (a[i] + 1) % D = b[i] then 1 else -1), true) := by
  obtain ⟨hw, hw6, hw0⟩ := LK.w h
  have hD := LK.d h
  have hD0 : 0 < D := by omega
  unfold impl_Lock_between.f
  have ht := turns_ev hw6
  rw [hw] at ht
  refine Ev.bind ht ?_
  have tl : (trns W.toNat).length = 2 * W.toNat := by simp [trns]
  have tg : ∀ m, m < 2 * W.toNat → rd_T32 (trns W.toNat) (m : Int) = trn m := by
    intro m hm
    unfold rd_T32 trns
    rw [Int.toNat_natCast, List.getD_eq_getElem?_getD, List.getElem?_map, List.getElem?_range hm]; rfl
  have ga : a.getD i 0 = a[i] := by rw [List.getD_eq_getElem?_getD, List.getElem?_eq_getElem hi]; rfl
  have miss : ∀ m, m < 2 * i → tur D (m / 2) (trn m).f1 a ≠ b := by
    intro m hm e
    apply hne
    have : (tur D (m / 2) (trn m).f1 a)[i]? = a[i]? := by unfold tur; rw [List.getElem?_set_ne (by omega)]
    rw [e, List.getElem?_eq_getElem hi, List.getElem?_eq_getElem hib] at this
    exact (Option.some.inj this).symm
  have one : ∀ m, m < 2 * W.toNat → ∀ {R : Int × Int × Bool}, (tur D (m / 2) (trn m).f1 a = b → R = ((trn m).f0, (trn m).f1, true)) → (tur D (m / 2) (trn m).f1 a ≠ b → Ev (fun k => impl_Lock_between.l0 k (txt a) (txt b) (trns W.toNat) ((trns W.toNat).length : Int) ((m + 1 : Nat) : Int) W D) R) →
      Ev (fun k => impl_Lock_between.l0 k (txt a) (txt b) (trns W.toNat) ((trns W.toNat).length : Int) (m : Int) W D) R := by
    intro m hm R h1 h2
    refine Ev.succ ?_
    have f0 : (trn m).f0 = ((m / 2 : Nat) : Int) := rfl
    have f1 : (trn m).f1 = 1 ∨ (trn m).f1 = -1 := by unfold trn; by_cases q : m % 2 = 0 <;> simp [q]
    simp only [impl_Lock_between.l0, tl, if_pos (show (m : Int) < ((2 * W.toNat : Nat) : Int) by omega), if_pos (show (0 : Int) ≤ (m : Int) by omega), tg m hm, f0, w64 (x := (m : Int) + 1) (by omega) (by omega)]
    refine Ev.bind (turned_ev hD ha (by omega) (i := m / 2) (by omega) (by omega)) ?_
    by_cases e : tur D (m / 2) (trn m).f1 a = b
    · simp only [if_pos (toList_inj.mpr (congrArg txt e)), h1 e, f0]
      exact Ev.now _
    · simp only [if_neg (show ¬ (txt (tur D (m / 2) (trn m).f1 a)).toList = (txt b).toList from fun q => e (txt_inj (IsD.mono (tur_isD hD0 ha _ _) hD.2) (IsD.mono hb hD.2) (toList_inj.mp q)))]
      have := h2 e
      rw [tl] at this
      exact this
  refine ev_loop (g := fun m k => impl_Lock_between.l0 k (txt a) (txt b) (trns W.toNat) ((trns W.toNat).length : Int) (m : Int) W D) (2 * i) ?_ ?_
  · intro m hm ih
    exact one m (by omega) (fun e => absurd e (miss m hm)) (fun _ => ih)
  · have e0 : (2 * i) / 2 = i := by omega
    have f1 : (trn (2 * i)).f1 = 1 := by unfold trn; simp
    refine one (2 * i) (by omega) ?_ ?_
    · intro e
      rw [e0, f1] at e
      have e3 : b[i] = (a[i] + 1) % D := by
        have q : (tur D i 1 a)[i]? = b[i]? := by rw [e]
        unfold tur at q
        rw [List.getElem?_set_self hi, ga, List.getElem?_eq_getElem hib] at q
        exact (Option.some.inj q).symm
      rw [if_pos e3.symm, f1]
      simp only [trn, e0]
    · intro e
      rw [e0, f1] at e
      have e3 : b[i] ≠ (a[i] + 1) % D := by
        intro q
        rcases hset with ⟨_, g⟩ | ⟨g, _⟩
        · apply e; unfold tur; rw [ga]; exact g.symm
        · exact g q
      have o0 : (2 * i + 1) / 2 = i := by omega
      have o1 : (trn (2 * i + 1)).f1 = -1 := by
        unfold trn
        simp only [show ¬ ((2 * i + 1) % 2 = 0) by omega, if_false]
      refine one (2 * i + 1) (by omega) ?_ ?_
      · intro _
        rw [if_neg (fun q => e3 q.symm), o1]
        simp only [trn, o0]
      · intro q
        exfalso
        apply q
        rw [o0, o1]
        rcases hset with ⟨g, _⟩ | ⟨_, g⟩
        · exact absurd g e3
        · unfold tur; rw [ga]; exact g.symm
/-- Both, from a code to one at the distance 1. -/
theorem both_turn {W D : Int} (h : LK W D) {a b : List Int} (ha : IsD D a) (hb : IsD D b) (hl : a.length = W.toNat) (hlb : b.length = W.toNat) (hn : Nx D a b) :
    ∃ i e : Int, Ev (fun k => spec_orTurn.f k W D (txt a) (txt b)) (i, e) ∧ Ev (fun k => impl_Lock_between.f k W D (txt a) (txt b)) (i, e, true) := by
  obtain ⟨hw, hw6, hw0⟩ := LK.w h
  obtain ⟨i, hi, hib, h1, h2, h3⟩ := nx_at (hl.trans hlb.symm) hn
  exact ⟨_, _, orTurn_ev (LK.d h) ha hb (by omega) (by omega) hi hib h1 h2, between_ev h ha hb hl hlb hi hib h1 h2 h3⟩
end Go.Proofs.Ytijbngmlaggclaa.O2
namespace Go.Proofs.Ytijbngmlaggclaa.O3
open Go.RowKit Go.Proofs.Ytijbngmlaggclaa.P Go.Proofs.Ytijbngmlaggclaa.B Go.Proofs.Ytijbngmlaggclaa.C Go.Proofs.Ytijbngmlaggclaa.L Go.Proofs.Ytijbngmlaggclaa.A Go.Proofs.Ytijbngmlaggclaa.O Go.Proofs.Ytijbngmlaggclaa.O2 Go.Proofs.YtijbngmlaggclaaW.PrintWords Go.Proofs.YtijbngmlaggclaaW.PrintLast Go.Proofs.YtijbngmlaggclaaW.PrintMore
set_option linter.unusedVariables false
set_option linter.unusedSimpArgs false
theorem code_ev {W D : Int} (h : LK W D) {n : Int} (h0 : 0 ≤ n) (h1 : n ≤ 1000000000) : Ev (fun k => impl_Lock_code.f k W D n) (txt (cod D W.toNat n)) := by
  obtain ⟨hw, hw6, hw0⟩ := LK.w h
  have hD := LK.d h
  have hD0 : 0 < D := by omega
  unfold impl_Lock_code.f
  simp only [if_pos (show 0 ≤ W by omega), if_pos (show W.toNat ≤ 35184372088832 by omega), w64 (x := W - 1) (by omega) (by omega)]
  have key := ev_loop (g := fun j k => impl_Lock_code.l0 k (n / D ^ j) (List.replicate (W.toNat - j) 0 ++ cod D j n) ((W.toNat : Int) - 1 - j) W D) (r := txt (cod D W.toNat n)) W.toNat ?_ ?_
  · rw [Int.pow_zero, Int.ediv_one] at key
    simp only [Nat.sub_zero, cod, List.append_nil, hw] at key
    rw [show W - 1 - ((0 : Nat) : Int) = W - 1 by omega] at key
    exact key
  · intro j hj ih
    have db := div_bd hD0 h0 j
    have db1 := div_bd hD0 h0 (j + 1)
    refine Ev.succ ?_
    have e1 : (List.replicate (W.toNat - j) 0 ++ cod D j n).length = W.toNat := by simp [cod_len]; omega
    have e2 : Int.tdiv (n / D ^ j) D = n / D ^ (j + 1) := by rw [Int.tdiv_eq_ediv_of_nonneg db.1, div_step hD0]
    have e3 : Int.tmod (n / D ^ j) D = n / D ^ j % D := Int.tmod_eq_emod_of_nonneg db.1
    have e4 : ((W.toNat : Int) - 1 - j).toNat = W.toNat - (j + 1) := by omega
    simp only [impl_Lock_code.l0, e1, if_pos (show (W.toNat : Int) - 1 - j ≥ 0 by omega), if_neg (show ¬ D = 0 by omega), if_pos (show (W.toNat : Int) - 1 - j < (W.toNat : Int) by omega), e2, e3, e4,
      w64 (x := n / D ^ (j + 1)) (by omega) (by omega), w64 (x := (W.toNat : Int) - 1 - j - 1) (by omega) (by omega)]
    rw [show W.toNat - j = W.toNat - (j + 1) + 1 by omega, rep_set]
    rw [show (W.toNat : Int) - 1 - j - 1 = (W.toNat : Int) - 1 - ((j + 1 : Nat) : Int) by omega]
    exact ih
  · refine Ev.succ ?_
    simp only [impl_Lock_code.l0, if_neg (show ¬ ((W.toNat : Int) - 1 - (W.toNat : Int) ≥ 0) by omega), Nat.sub_self, List.replicate_zero, List.nil_append]
    exact Ev.bind (text_ev _ (by rw [cod_len]; omega) (IsD.mono (cod_isD hD0 _ _) hD.2)) (Ev.now _)
theorem df_snoc (D : Int) : ∀ (d : List Int) (p : Int) (j : Nat) (hj : j + 1 < d.length), (df D p d)[j + 1]'(by rw [df_len]; exact hj) = (d[j + 1] - d[j]'(by omega)) % D
  | [], _, _, hj => absurd hj (by simp)
  | [x], _, _, hj => absurd hj (by simp)
  | x :: y :: ys, p, 0, hj => rfl
  | x :: y :: ys, p, j + 1, hj => by
    have := df_snoc D (y :: ys) x j (by simpa using hj)
    simpa only [df, List.getElem_cons_succ] using this
theorem take_one {α : Type} : ∀ (l : List α) (h : 0 < l.length), l.take 1 = [l[0]]
  | [], h => absurd h (by simp)
  | x :: xs, _ => rfl
theorem df_head {D : Int} {d : List Int} (hd : IsD D d) (h : 0 < d.length) : (df D 0 d)[0]'(by rw [df_len]; exact h) = d[0] := by
  cases d with
  | nil => exact absurd h (by simp)
  | cons x xs =>
    obtain ⟨⟨h0, h1⟩, _⟩ := IsD.cons hd
    simp only [df, List.getElem_cons_zero, Int.sub_zero, Int.emod_eq_of_lt h0 h1]
theorem round_ev {W D : Int} (h : LK W D) {n : Int} (h0 : 0 ≤ n) (h1 : n ≤ 1000000000) : Ev (fun k => impl_Lock_round.f k W D n) (txt (df D 0 (cod D W.toNat n))) := by
  obtain ⟨hw, hw6, hw0⟩ := LK.w h
  have hD := LK.d h
  have hD0 : 0 < D := by omega
  unfold impl_Lock_round.f
  refine Ev.bind (code_ev h h0 h1) (Ev.bind (digits_ev _ (by rw [txt_size, cod_len]; omega)) ?_)
  have hd : IsD D (cod D W.toNat n) := cod_isD hD0 _ _
  rw [digs_txt (IsD.mono hd hD.2)]
  have hl : (cod D W.toNat n).length = W.toNat := cod_len _ _ _
  generalize cod D W.toNat n = d at *
  have hfl : (df D 0 d).length = d.length := df_len _ _ _
  have hf : IsD D (df D 0 d) := df_isD hD0 _ _
  have key : ∀ i : Nat, i < d.length → Ev (fun k => impl_Lock_round.l0 k (d.take (i + 1) ++ (df D 0 d).drop (i + 1)) (i : Int) W D) (txt (df D 0 d)) := by
    intro i
    induction i with
    | zero =>
      intro hi
      refine Ev.succ ?_
      have e : d.take 1 ++ (df D 0 d).drop 1 = df D 0 d := by
        have h2 := df_head hd hi
        have h3 : d.take 1 = (df D 0 d).take 1 := by
          rw [take_one _ hi, take_one _ (by omega), h2]
        rw [h3, List.take_append_drop]
      rw [e]
      simp only [impl_Lock_round.l0, if_neg (show ¬ (((0 : Nat) : Int) > 0) by omega)]
      exact Ev.bind (text_ev _ (by omega) (IsD.mono hf hD.2)) (Ev.now _)
    | succ i ih =>
      intro hi
      have x := IsD.get hd hi
      have y := IsD.get hd (show i < d.length by omega)
      have hlen : (d.take (i + 1 + 1) ++ (df D 0 d).drop (i + 1 + 1)).length = d.length := by simp [hfl]; omega
      have hlt : (d.take (i + 1 + 1)).length = i + 1 + 1 := by rw [List.length_take]; omega
      have r1 : rd (d.take (i + 1 + 1) ++ (df D 0 d).drop (i + 1 + 1)) ((i + 1 : Nat) : Int) = d[i + 1] := by
        rw [rd_get _ (i + 1) (by omega), List.getElem_append_left (by omega), List.getElem_take]
      have r2 : rd (d.take (i + 1 + 1) ++ (df D 0 d).drop (i + 1 + 1)) (i : Int) = d[i]'(by omega) := by
        rw [rd_get _ i (by omega), List.getElem_append_left (by omega), List.getElem_take]
      have e := df_snoc D d 0 i hi
      refine Ev.succ ?_
      have e1 : ((i + 1 : Nat) : Int) - 1 = (i : Int) := by omega
      simp only [impl_Lock_round.l0, hlen, if_pos (show ((i + 1 : Nat) : Int) > 0 by omega), if_pos (show (0 : Int) ≤ ((i + 1 : Nat) : Int) by omega), if_pos (show ((i + 1 : Nat) : Int) < (d.length : Int) by omega), e1, w64 (x := (i : Int)) (by omega) (by omega),
        if_pos (show (0 : Int) ≤ (i : Int) by omega), if_pos (show (i : Int) < (d.length : Int) by omega), r1, r2, w64 (x := d[i + 1] - d[i]'(by omega)) (by omega) (by omega), around_eq (D := D) (by omega), Option.bind_some]
      have es : (d.take (i + 1 + 1) ++ (df D 0 d).drop (i + 1 + 1)).set ((i + 1 : Nat) : Int).toNat ((d[i + 1] - d[i]'(by omega)) % D) = d.take (i + 1) ++ (df D 0 d).drop (i + 1) := by
        rw [Int.toNat_natCast, List.set_append_left _ _ (by omega), ← e, List.drop_eq_getElem_cons (show i + 1 < (df D 0 d).length by omega), List.take_succ_eq_append_getElem hi, List.set_append_right _ _ (by rw [List.length_take]; omega)]
        rw [List.length_take, show i + 1 - min (i + 1) d.length = 0 by omega, List.set_cons_zero, List.append_assoc]
        rfl
      rw [es]
      exact ih (by omega)
  have := key (d.length - 1) (by omega)
  rw [show d.length - 1 + 1 = d.length by omega, List.take_of_length_le (Nat.le_refl _), List.drop_of_length_le (by omega), List.append_nil] at this
  rw [w64 (x := (d.length : Int) - 1) (by omega) (by omega), show (d.length : Int) - 1 = ((d.length - 1 : Nat) : Int) by omega]
  exact this
theorem orRound_ev {W D : Int} (h : LK W D) {n : Int} (h0 : 0 ≤ n) (h1 : n ≤ 1000000000) : Ev (fun k => spec_orRound.f k W D n) (txt (df D 0 (cod D W.toNat n))) := by
  obtain ⟨hw, hw6, hw0⟩ := LK.w h
  have hD := LK.d h
  have hD0 : 0 < D := by omega
  unfold spec_orRound.f
  refine Ev.bind (whOf_ev h h0 h1) (Ev.bind (whDigits_ev _ (by rw [txt_size, cod_len]; omega)) ?_)
  have hd : IsD D (cod D W.toNat n) := cod_isD hD0 _ _
  rw [digs_txt (IsD.mono hd hD.2)]
  have hl : (cod D W.toNat n).length = W.toNat := cod_len _ _ _
  generalize cod D W.toNat n = d at *
  have hfl : (df D 0 d).length = d.length := df_len _ _ _
  have hf : IsD D (df D 0 d) := df_isD hD0 _ _
  have hp : 0 < d.length := by omega
  simp only [if_pos (show 0 < (d.length : Int) by omega)]
  have e0 : [rd d 0] = (df D 0 d).take 1 := by
    rw [take_one _ (by omega), df_head hd hp]
    exact congrArg (fun x => [x]) (rd_get d 0 hp)
  rw [e0]
  have key : ∀ m i : Nat, d.length - i = m → 1 ≤ i → i ≤ d.length → Ev (fun k => spec_orRound.l0 k d ((df D 0 d).take i) (i : Int) W D) (txt (df D 0 d)) := by
    intro m
    induction m with
    | zero =>
      intro i hm h1 hi
      obtain rfl : i = d.length := by omega
      refine Ev.succ ?_
      rw [List.take_of_length_le (by omega)]
      simp only [spec_orRound.l0, if_neg (show ¬ ((d.length : Nat) : Int) < (d.length : Int) by omega)]
      exact Ev.bind (whText_ev _ (by omega) (IsD.mono hf hD.2)) (Ev.now _)
    | succ m ih =>
      intro i hm h1 hi
      have hi' : i < d.length := by omega
      have x := IsD.get hd hi'
      have y := IsD.get hd (show i - 1 < d.length by omega)
      have e := df_snoc D d 0 (i - 1) (by omega)
      simp only [show i - 1 + 1 = i by omega] at e
      have e1 : (i : Int) - 1 = ((i - 1 : Nat) : Int) := by omega
      have hlt : ((df D 0 d).take i).length = i := by rw [List.length_take]; omega
      refine Ev.succ ?_
      simp only [spec_orRound.l0, if_pos (show (i : Int) < (d.length : Int) by omega), if_pos (show (0 : Int) ≤ (i : Int) by omega), e1, w64 (x := ((i - 1 : Nat) : Int)) (by omega) (by omega), if_pos (show (0 : Int) ≤ ((i - 1 : Nat) : Int) by omega), if_pos (show ((i - 1 : Nat) : Int) < (d.length : Int) by omega),
        rd_get d i hi', rd_get d (i - 1) (by omega), w64 (x := d[i] - d[i - 1]'(by omega)) (by omega) (by omega), l1Mod_eq (D := D) (by omega), Option.bind_some, hlt, if_pos (show i < 17592186044416 by omega), w64 (x := (i : Int) + 1) (by omega) (by omega)]
      have := ih (i + 1) (by omega) (by omega) (by omega)
      rw [List.take_succ_eq_append_getElem (by omega), e] at this
      exact this
  exact key (d.length - 1) 1 rfl (by omega) (by omega)
end Go.Proofs.Ytijbngmlaggclaa.O3
namespace Go.Proofs.Ytijbngmlaggclaa.R
open Go.RowKit Go.Proofs.Ytijbngmlaggclaa.P Go.Proofs.Ytijbngmlaggclaa.B Go.Proofs.Ytijbngmlaggclaa.C Go.Proofs.Ytijbngmlaggclaa.L Go.Proofs.Ytijbngmlaggclaa.A Go.Proofs.Ytijbngmlaggclaa.O Go.Proofs.Ytijbngmlaggclaa.O2 Go.Proofs.Ytijbngmlaggclaa.O3 Go.Proofs.YtijbngmlaggclaaW.PrintWords Go.Proofs.YtijbngmlaggclaaW.PrintLast Go.Proofs.YtijbngmlaggclaaW.PrintMore
set_option linter.unusedVariables false
set_option linter.unusedSimpArgs false
/-- A lock of rings. -/
def RK (W D : Int) : Prop := LK W D ∧ cnt W D ≤ 1000
instance (W D : Int) : Decidable (RK W D) := by unfold RK; infer_instance
theorem byte_inj {s t : ByteArray} (h : s.data.toList = t.data.toList) : s = t := ByteArray.ext (Array.ext' h)
end Go.Proofs.Ytijbngmlaggclaa.R
namespace Go.Proofs.Ytijbngmlaggclaa.D1
open Go.RowKit Go.Proofs.Ytijbngmlaggclaa.P Go.Proofs.Ytijbngmlaggclaa.B Go.Proofs.Ytijbngmlaggclaa.C Go.Proofs.Ytijbngmlaggclaa.L Go.Proofs.Ytijbngmlaggclaa.A Go.Proofs.Ytijbngmlaggclaa.O Go.Proofs.Ytijbngmlaggclaa.O2 Go.Proofs.Ytijbngmlaggclaa.R Go.Proofs.YtijbngmlaggclaaW.PrintWords Go.Proofs.YtijbngmlaggclaaW.PrintLast Go.Proofs.YtijbngmlaggclaaW.PrintMore
set_option linter.unusedVariables false
set_option linter.unusedSimpArgs false
def nr (D x y : Int) : Int := if (y - x) % D < D - (y - x) % D then (y - x) % D else D - (y - x) % D
theorem sub_mod {D x y : Int} (hx : 0 ≤ x ∧ x < D) (hy : 0 ≤ y ∧ y < D) : (y - x) % D = if x ≤ y then y - x else y - x + D := by
  split
  · exact Int.emod_eq_of_lt (by omega) (by omega)
  · rw [← Int.add_emod_right]; exact Int.emod_eq_of_lt (by omega) (by omega)
theorem up_mod {D x : Int} (hx : 0 ≤ x ∧ x < D) (hD : 2 ≤ D) : (x + 1) % D = if x + 1 < D then x + 1 else 0 := by
  split
  · exact Int.emod_eq_of_lt (by omega) (by omega)
  · have : x + 1 = D := by omega
    rw [this, Int.emod_self]
theorem dn_mod {D x : Int} (hx : 0 ≤ x ∧ x < D) (hD : 2 ≤ D) : (x - 1) % D = if 0 < x then x - 1 else D - 1 := by
  split
  · exact Int.emod_eq_of_lt (by omega) (by omega)
  · rw [← Int.add_emod_right]; have : x - 1 + D = D - 1 := by omega
    rw [this]; exact Int.emod_eq_of_lt (by omega) (by omega)
theorem nr_bd {D x y : Int} (hD : 2 ≤ D) : 0 ≤ nr D x y ∧ 2 * nr D x y ≤ D := by
  have h1 := Int.emod_nonneg (y - x) (b := D) (by omega)
  have h2 := Int.emod_lt_of_pos (y - x) (b := D) (by omega)
  unfold nr; split <;> omega
theorem nr_zero {D x y : Int} (hD : 2 ≤ D) (hx : 0 ≤ x ∧ x < D) (hy : 0 ≤ y ∧ y < D) : nr D x y = 0 ↔ x = y := by
  unfold nr; rw [sub_mod hx hy]; split <;> split <;> omega
theorem nr_one {D x y : Int} (hD : 2 ≤ D) (hx : 0 ≤ x ∧ x < D) (hy : 0 ≤ y ∧ y < D) : nr D x y = 1 ↔ x ≠ y ∧ (y = (x + 1) % D ∨ y = (x - 1) % D) := by
  unfold nr; rw [sub_mod hx hy, up_mod hx hD, dn_mod hx hD]; split <;> split <;> split <;> split <;> omega
def dst (D : Int) : List Int → List Int → Int
  | x :: xs, y :: ys => nr D x y + dst D xs ys
  | _, _ => 0
theorem dst_nonneg {D : Int} (hD : 2 ≤ D) : ∀ a b : List Int, 0 ≤ dst D a b ∧ dst D a b ≤ D * (a.length : Int)
  | [], _ => by simp [dst]
  | _ :: _, [] => by simp only [dst, List.length_cons]; exact ⟨by omega, Int.mul_nonneg (by omega) (by omega)⟩
  | x :: xs, y :: ys => by
    have h1 := nr_bd (x := x) (y := y) hD
    have h2 := dst_nonneg hD xs ys
    simp only [dst, List.length_cons]
    rw [show (((xs.length + 1 : Nat)) : Int) = (xs.length : Int) + 1 by omega, Int.mul_add]
    omega
theorem dst_zero {D : Int} (hD : 2 ≤ D) : ∀ {a b : List Int}, IsD D a → IsD D b → a.length = b.length → (dst D a b = 0 ↔ a = b)
  | [], [], _, _, _ => by simp [dst]
  | [], _ :: _, _, _, h => by simp at h
  | _ :: _, [], _, _, h => by simp at h
  | x :: xs, y :: ys, ha, hb, hl => by
    obtain ⟨hx, ha'⟩ := IsD.cons ha
    obtain ⟨hy, hb'⟩ := IsD.cons hb
    have h1 := nr_bd (x := x) (y := y) hD
    have h2 := dst_nonneg hD xs ys
    have h3 := nr_zero hD hx hy
    have h4 := dst_zero hD ha' hb' (by simpa using hl)
    simp only [dst, List.cons.injEq]
    constructor
    · intro e; exact ⟨h3.mp (by omega), h4.mp (by omega)⟩
    · rintro ⟨e1, e2⟩; have := h3.mpr e1; have := h4.mpr e2; omega
theorem dst_one {D : Int} (hD : 2 ≤ D) : ∀ {a b : List Int}, IsD D a → IsD D b → a.length = b.length → (dst D a b = 1 ↔ Nx D a b)
  | [], [], _, _, _ => by simp [dst, Nx]
  | [], _ :: _, _, _, h => by simp at h
  | _ :: _, [], _, _, h => by simp at h
  | x :: xs, y :: ys, ha, hb, hl => by
    obtain ⟨hx, ha'⟩ := IsD.cons ha
    obtain ⟨hy, hb'⟩ := IsD.cons hb
    have hl' : xs.length = ys.length := by simpa using hl
    have h1 := nr_bd (x := x) (y := y) hD
    have h2 := dst_nonneg hD xs ys
    have h3 := nr_zero hD hx hy
    have h4 := dst_zero hD ha' hb' hl'
    have h5 := nr_one hD hx hy
    have h6 := dst_one hD ha' hb' hl'
    simp only [dst, Nx]
    constructor
    · intro e
      by_cases q : nr D x y = 0
      · exact .inl ⟨h3.mp q, h6.mp (by omega)⟩
      · have := h5.mp (by omega)
        exact .inr ⟨h4.mp (by omega), this.1, this.2⟩
    · rintro (⟨e1, e2⟩ | ⟨e1, e2, e3⟩)
      · have := h3.mpr e1; have := h6.mpr e2; omega
      · have := h4.mpr e1; have := h5.mpr ⟨e2, e3⟩; omega
/-- The distance of texts. -/
def ds (D : Int) (s t : ByteArray) : Int := dst D (digs s) (digs t)
theorem ds_nx {W D : Int} (h : LK W D) {s t : ByteArray} (hs : isC W D s = true) (ht : isC W D t = true) : ds D s t = 1 ↔ Nx D (digs s) (digs t) := by
  obtain ⟨l1, d1, e1⟩ := codeOf h hs
  obtain ⟨l2, d2, e2⟩ := codeOf h ht
  exact dst_one h.2.2.1 d1 d2 (by omega)
theorem tur_nx {D : Int} (hD : 2 ≤ D) : ∀ {a : List Int} {i : Nat} {e : Int}, IsD D a → i < a.length → e = 1 ∨ e = -1 → Nx D a (tur D i e a)
  | [], i, e, _, hi, _ => absurd hi (by simp)
  | x :: xs, 0, e, ha, hi, he => by
    obtain ⟨hx, _⟩ := IsD.cons ha
    have u := up_mod hx hD; have d := dn_mod hx hD
    unfold tur
    simp only [List.getD_cons_zero, List.set_cons_zero, Nx]
    right
    refine ⟨trivial, ?_, ?_⟩
    · rcases he with rfl | rfl
      · rw [u]; split <;> omega
      · rw [show x + -1 = x - 1 by omega, d]; split <;> omega
    · rcases he with rfl | rfl
      · exact .inl rfl
      · exact .inr (by rw [show x + -1 = x - 1 by omega])
  | x :: xs, i + 1, e, ha, hi, he => by
    obtain ⟨_, ha'⟩ := IsD.cons ha
    have := tur_nx hD (a := xs) (i := i) (e := e) ha' (by simpa using hi) he
    unfold tur at this ⊢
    simp only [List.getD_cons_succ, List.set_cons_succ, Nx]
    exact .inl ⟨trivial, this⟩
theorem between_no {W D : Int} (h : LK W D) {a b : List Int} (ha : IsD D a) (hb : IsD D b) (hl : a.length = W.toNat) (hlb : b.length = W.toNat) (hn : ¬ Nx D a b) : Ev (fun k => impl_Lock_between.f k W D (txt a) (txt b)) (0, 0, false) := by
  obtain ⟨hw, hw6, hw0⟩ := LK.w h
  have hD := LK.d h
  have hD0 : 0 < D := by omega
  unfold impl_Lock_between.f
  have ht := turns_ev hw6
  rw [hw] at ht
  refine Ev.bind ht ?_
  have tl : (trns W.toNat).length = 2 * W.toNat := by simp [trns]
  have tg : ∀ m, m < 2 * W.toNat → rd_T32 (trns W.toNat) (m : Int) = trn m := by
    intro m hm
    unfold rd_T32 trns
    rw [Int.toNat_natCast, List.getD_eq_getElem?_getD, List.getElem?_map, List.getElem?_range hm]; rfl
  refine ev_loop (g := fun m k => impl_Lock_between.l0 k (txt a) (txt b) (trns W.toNat) ((trns W.toNat).length : Int) (m : Int) W D) (2 * W.toNat) ?_ ?_
  · intro m hm ih
    refine Ev.succ ?_
    have f0 : (trn m).f0 = ((m / 2 : Nat) : Int) := rfl
    have f1 : (trn m).f1 = 1 ∨ (trn m).f1 = -1 := by unfold trn; by_cases q : m % 2 = 0 <;> simp [q]
    simp only [impl_Lock_between.l0, tl, if_pos (show (m : Int) < ((2 * W.toNat : Nat) : Int) by omega), if_pos (show (0 : Int) ≤ (m : Int) by omega), tg m hm, f0, w64 (x := (m : Int) + 1) (by omega) (by omega)]
    refine Ev.bind (turned_ev hD ha (by omega) (i := m / 2) (by omega) (by omega)) ?_
    have e : tur D (m / 2) (trn m).f1 a ≠ b := fun e => hn (e ▸ tur_nx hD.1 ha (by omega) f1)
    simp only [if_neg (show ¬ (txt (tur D (m / 2) (trn m).f1 a)).toList = (txt b).toList from fun q => e (txt_inj (IsD.mono (tur_isD hD0 ha _ _) hD.2) (IsD.mono hb hD.2) (toList_inj.mp q)))]
    rw [tl] at ih
    exact ih
  · refine Ev.succ ?_
    simp only [impl_Lock_between.l0, tl, if_neg (show ¬ ((2 * W.toNat : Nat) : Int) < ((2 * W.toNat : Nat) : Int) by omega)]
    exact Ev.now _
end Go.Proofs.Ytijbngmlaggclaa.D1
namespace Go.Proofs.Ytijbngmlaggclaa.D2
open Go.RowKit Go.Proofs.Ytijbngmlaggclaa.P Go.Proofs.Ytijbngmlaggclaa.B Go.Proofs.Ytijbngmlaggclaa.C Go.Proofs.Ytijbngmlaggclaa.L Go.Proofs.Ytijbngmlaggclaa.A Go.Proofs.Ytijbngmlaggclaa.O Go.Proofs.Ytijbngmlaggclaa.O2 Go.Proofs.Ytijbngmlaggclaa.R Go.Proofs.Ytijbngmlaggclaa.D1 Go.Proofs.YtijbngmlaggclaaW.PrintWords Go.Proofs.YtijbngmlaggclaaW.PrintLast Go.Proofs.YtijbngmlaggclaaW.PrintMore
set_option linter.unusedVariables false
set_option linter.unusedSimpArgs false
def gt (l : List ByteArray) (j : Nat) : ByteArray := l.getD j ByteArray.empty
theorem rd_gt (l : List ByteArray) (j : Nat) : rdOf ByteArray.empty l (j : Int) = gt l j := by unfold rdOf gt; rw [Int.toNat_natCast]
theorem gt_get (l : List ByteArray) {j : Nat} (h : j < l.length) : gt l j = l[j] := by unfold gt; rw [List.getD_eq_getElem?_getD, List.getElem?_eq_getElem h]; rfl
theorem gt_mem (l : List ByteArray) {j : Nat} (h : j < l.length) : gt l j ∈ l := by rw [gt_get l h]; exact List.getElem_mem h
def hasS (l : List ByteArray) (s : ByteArray) : Bool := l.any fun t => decide (t.data.toList = s.data.toList)
theorem hasS_iff (l : List ByteArray) (s : ByteArray) : hasS l s = true ↔ s ∈ l := by
  unfold hasS
  rw [List.any_eq_true]
  constructor
  · rintro ⟨t, ht, e⟩; rw [← byte_inj (of_decide_eq_true e)]; exact ht
  · intro h; exact ⟨s, h, decide_eq_true rfl⟩
/-- The j-th text goes on with an order. -/
def okAt (W D : Int) (l : List ByteArray) (j : Nat) : Bool := isC W D (gt l j) && (!hasS (l.take j) (gt l j) && (decide (j = 0) || decide (ds D (gt l (j - 1)) (gt l j) = 1)))
def allFrom (W D : Int) (l : List ByteArray) (j : Nat) : Bool := (List.range (l.length - j)).all fun i => okAt W D l (j + i)
theorem all_step (W D : Int) (l : List ByteArray) {j : Nat} (h : j < l.length) : allFrom W D l j = (okAt W D l j && allFrom W D l (j + 1)) := by
  unfold allFrom
  rw [show l.length - j = (l.length - (j + 1)) + 1 by omega, List.range_succ_eq_map, List.all_cons, List.all_map, Nat.add_zero]
  congr 2
  funext i
  show okAt W D l (j + (i + 1)) = _
  rw [show j + (i + 1) = j + 1 + i by omega]
theorem all_end (W D : Int) (l : List ByteArray) : allFrom W D l l.length = true := by unfold allFrom; simp
theorem okAt_C {W D : Int} {l : List ByteArray} {j : Nat} (h : okAt W D l j = true) : isC W D (gt l j) = true := by
  unfold okAt at h; rw [Bool.and_eq_true] at h; exact h.1
instance : Nonempty S32 := ⟨⟨0, 0⟩⟩
open Classical in
noncomputable def tn (W D : Int) (s t : ByteArray) : S32 := epsilon fun r => Ev (fun k => spec_orTurn.f k W D s t) (r.f0, r.f1) ∧ Ev (fun k => impl_Lock_between.f k W D s t) (r.f0, r.f1, true)
theorem tn_ev {W D : Int} (h : LK W D) {s t : ByteArray} (hs : isC W D s = true) (ht : isC W D t = true) (hd : ds D s t = 1) :
    Ev (fun k => spec_orTurn.f k W D s t) ((tn W D s t).f0, (tn W D s t).f1) ∧ Ev (fun k => impl_Lock_between.f k W D s t) ((tn W D s t).f0, (tn W D s t).f1, true) := by
  obtain ⟨l1, d1, e1⟩ := codeOf h hs
  obtain ⟨l2, d2, e2⟩ := codeOf h ht
  obtain ⟨i, e, h1, h2⟩ := both_turn h d1 d2 l1 l2 ((ds_nx h hs ht).mp hd)
  rw [e1, e2] at h1 h2
  exact Classical.epsilon_spec (p := fun r : S32 => Ev (fun k => spec_orTurn.f k W D s t) (r.f0, r.f1) ∧ Ev (fun k => impl_Lock_between.f k W D s t) (r.f0, r.f1, true)) ⟨⟨i, e⟩, h1, h2⟩
theorem tn_no {W D : Int} (h : LK W D) {s t : ByteArray} (hs : isC W D s = true) (ht : isC W D t = true) (hd : ds D s t ≠ 1) : Ev (fun k => impl_Lock_between.f k W D s t) (0, 0, false) := by
  obtain ⟨l1, d1, e1⟩ := codeOf h hs
  obtain ⟨l2, d2, e2⟩ := codeOf h ht
  have := between_no h d1 d2 l1 l2 (fun q => hd ((ds_nx h hs ht).mpr q))
  rwa [e1, e2] at this
noncomputable def tns (W D : Int) (l : List ByteArray) (n : Nat) : List S32 := (List.range n).map fun i => tn W D (gt l i) (gt l (i + 1))
theorem tns_succ (W D : Int) (l : List ByteArray) (n : Nat) : tns W D l (n + 1) = tns W D l n ++ [tn W D (gt l n) (gt l (n + 1))] := by unfold tns; rw [List.range_succ, List.map_append]; rfl
theorem tns_len (W D : Int) (l : List ByteArray) (n : Nat) : (tns W D l n).length = n := by simp [tns]
open Classical in
noncomputable def ordR (W D : Int) (l : List ByteArray) (j : Nat) : List S32 × Bool := if allFrom W D l j = true ∧ l.length ≤ 1000 then (tns W D l (l.length - 1), true) else ([], false)
theorem turnsOf_ev {W D : Int} (h : LK W D) (l : List ByteArray) (hll : l.length ≤ 100000000) (hs : ∀ s ∈ l, s.size ≤ 140737488351232) : Ev (fun k => impl_Lock_orderTurns.f k W D l) (ordR W D l 0) := by
  have hW := LK.w h
  unfold impl_Lock_orderTurns.f
  have key : ∀ m j : Nat, l.length - j = m → j ≤ l.length → j ≤ 1000 → (∀ i, i < j → okAt W D l i = true) → Ev (fun k => impl_Lock_orderTurns.l0 k l (tns W D l (j - 1)) (l.take j) l (l.length : Int) (j : Int) W D) (ordR W D l j) := by
    intro m
    induction m with
    | zero =>
      intro j hm hj hj1 hok
      obtain rfl : j = l.length := by omega
      refine Ev.succ ?_
      simp only [impl_Lock_orderTurns.l0, if_neg (show ¬ ((l.length : Nat) : Int) < (l.length : Int) by omega)]
      unfold ordR
      rw [if_pos ⟨all_end W D l, hj1⟩]
      exact Ev.now _
    | succ m ih =>
      intro j hm hj hj1 hok
      have hj' : j < l.length := by omega
      have hss := hs _ (gt_mem l hj')
      have lt : (l.take j).length = j := by rw [List.length_take]; omega
      have tl := tns_len W D l (j - 1)
      refine Ev.succ ?_
      simp only [impl_Lock_orderTurns.l0, if_pos (show (j : Int) < (l.length : Int) by omega), if_pos (show (0 : Int) ≤ (j : Int) by omega), rd_gt]
      refine Ev.bind (isCode_ev h.2.2 (gt l j) hss) ?_
      have no : ∀ b, b = true → ¬ (allFrom W D l j = true ∧ l.length ≤ 1000) → Ev (fun k => impl_Lock_orderTurns.j1 k l (tns W D l (j - 1)) (l.take j) (j : Int) (gt l j) l (l.length : Int) (j : Int) b W D) (ordR W D l j) := by
        intro b hb hn
        subst hb
        refine Ev.succ ?_
        simp only [impl_Lock_orderTurns.j1, if_true]
        unfold ordR; rw [if_neg hn]; exact Ev.now _
      by_cases hc : isC W D (gt l j) = true
      · simp only [hc, if_true]
        unfold impl_Lock_orderTurns.look
        simp only [if_pos (show (gt l j).size ≤ 9223372036854775807 by omega), Option.bind_some]
        have hh : impl_Lock_orderTurns.has (l.take j) (gt l j) = hasS (l.take j) (gt l j) := rfl
        rw [hh]
        by_cases hm2 : hasS (l.take j) (gt l j) = true
        · simp only [hm2, if_true]
          refine no _ rfl fun q => ?_
          have := q.1
          rw [all_step W D l hj'] at this
          unfold okAt at this
          rw [hm2] at this
          simp at this
        · rw [Bool.not_eq_true] at hm2
          simp only [hm2, Bool.false_eq_true, if_false]
          by_cases hb : (j : Int) ≥ 1000
          · simp only [decide_eq_true hb]
            exact no _ rfl fun q => by have := q.2; omega
          · simp only [decide_eq_false hb]
            refine Ev.succ ?_
            simp only [impl_Lock_orderTurns.j1, Bool.false_eq_true, if_false]
            unfold impl_Lock_orderTurns.put
            have tk : l.take j ++ [gt l j] = l.take (j + 1) := by rw [List.take_succ_eq_append_getElem hj', gt_get l hj']
            simp only [if_pos (show (gt l j).size ≤ 9223372036854775807 by omega), lt, if_pos (show j < 9223372036854775807 by omega), Option.bind_some, tk]
            have same : okAt W D l j = true → ordR W D l j = ordR W D l (j + 1) := fun q => by unfold ordR; rw [all_step W D l hj', q, Bool.true_and]
            by_cases j0 : j = 0
            · have ok0 : okAt W D l j = true := by unfold okAt; rw [hc, hm2, decide_eq_true j0]; rfl
              simp only [if_pos (show (j : Int) = 0 by omega), w64 (x := (j : Int) + 1) (by omega) (by omega)]
              rw [same ok0]
              have := ih (j + 1) (by omega) (by omega) (by omega) (fun i hi => by
                by_cases q : i = j
                · rw [q]; exact ok0
                · exact hok i (by omega))
              rw [show j + 1 - 1 = j - 1 by omega] at this
              exact this
            · have pc := okAt_C (hok (j - 1) (by omega))
              simp only [if_neg (show ¬ (j : Int) = 0 by omega), show (j : Int) - 1 = ((j - 1 : Nat) : Int) by omega, w64 (x := ((j - 1 : Nat) : Int)) (by omega) (by omega), if_pos (show (0 : Int) ≤ ((j - 1 : Nat) : Int) by omega), if_pos (show ((j - 1 : Nat) : Int) < (l.length : Int) by omega), rd_gt]
              by_cases d1 : ds D (gt l (j - 1)) (gt l j) = 1
              · have ok1 : okAt W D l j = true := by unfold okAt; rw [hc, hm2, decide_eq_true d1]; simp
                refine Ev.bind (tn_ev h pc hc d1).2 ?_
                simp only [if_true, tl, if_pos (show j - 1 < 8796093022208 by omega), w64 (x := (j : Int) + 1) (by omega) (by omega)]
                rw [same ok1]
                have := ih (j + 1) (by omega) (by omega) (by omega) (fun i hi => by
                  by_cases q : i = j
                  · rw [q]; exact ok1
                  · exact hok i (by omega))
                rw [show j + 1 - 1 = (j - 1) + 1 by omega, tns_succ, show j - 1 + 1 = j by omega] at this
                exact this
              · refine Ev.bind (tn_no h pc hc d1) ?_
                simp only [Bool.false_eq_true, if_false]
                have : ordR W D l j = ([], false) := by
                  unfold ordR
                  rw [if_neg]
                  intro q
                  have := q.1
                  rw [all_step W D l hj'] at this
                  unfold okAt at this
                  rw [decide_eq_false j0, decide_eq_false d1] at this
                  simp at this
                rw [this]; exact Ev.now _
      · rw [Bool.not_eq_true] at hc
        simp only [hc, Bool.false_eq_true, if_false]
        refine no _ rfl fun q => ?_
        have := q.1
        rw [all_step W D l hj'] at this
        unfold okAt at this
        rw [hc] at this
        simp at this
  have := key l.length 0 (by omega) (by omega) (by omega) (fun i hi => absurd hi (by omega))
  simpa [tns] using this
theorem ordR_ok (W D : Int) (l : List ByteArray) : (ordR W D l 0).2 = (decide (l.length ≤ 1000) && allFrom W D l 0) := by
  unfold ordR
  by_cases h : allFrom W D l 0 = true ∧ l.length ≤ 1000
  · rw [if_pos h, h.1, decide_eq_true h.2]; rfl
  · rw [if_neg h]
    by_cases q : l.length ≤ 1000
    · have : allFrom W D l 0 = false := by rw [← Bool.not_eq_true]; exact fun r => h ⟨r, q⟩
      rw [this]; simp
    · rw [decide_eq_false q]; rfl
end Go.Proofs.Ytijbngmlaggclaa.D2
namespace Go.Proofs.Ytijbngmlaggclaa.D4
open Go.RowKit Go.Proofs.Ytijbngmlaggclaa.P Go.Proofs.Ytijbngmlaggclaa.B Go.Proofs.Ytijbngmlaggclaa.C Go.Proofs.Ytijbngmlaggclaa.L Go.Proofs.Ytijbngmlaggclaa.A Go.Proofs.Ytijbngmlaggclaa.O Go.Proofs.Ytijbngmlaggclaa.O2 Go.Proofs.Ytijbngmlaggclaa.D1 Go.Proofs.Ytijbngmlaggclaa.D2 Go.Proofs.YtijbngmlaggclaaW.PrintWords Go.Proofs.YtijbngmlaggclaaW.PrintLast Go.Proofs.YtijbngmlaggclaaW.PrintMore
set_option linter.unusedVariables false
set_option linter.unusedSimpArgs false
def ordB (W D : Int) (l : List ByteArray) : Bool := decide (l.length ≤ 1000) && allFrom W D l 0
end Go.Proofs.Ytijbngmlaggclaa.D4
namespace Go.Proofs.Ytijbngmlaggclaa.OT
open Go.RowKit Go.Proofs.Ytijbngmlaggclaa.P Go.Proofs.Ytijbngmlaggclaa.B Go.Proofs.Ytijbngmlaggclaa.C Go.Proofs.Ytijbngmlaggclaa.L Go.Proofs.Ytijbngmlaggclaa.A Go.Proofs.Ytijbngmlaggclaa.O Go.Proofs.Ytijbngmlaggclaa.O2 Go.Proofs.Ytijbngmlaggclaa.O3 Go.Proofs.Ytijbngmlaggclaa.OF Go.Proofs.Ytijbngmlaggclaa.R Go.Proofs.Ytijbngmlaggclaa.D1 Go.Proofs.Ytijbngmlaggclaa.D2 Go.Proofs.Ytijbngmlaggclaa.D4 Go.Proofs.YtijbngmlaggclaaW.PrintWords Go.Proofs.YtijbngmlaggclaaW.PrintLast Go.Proofs.YtijbngmlaggclaaW.PrintMore
set_option linter.unusedVariables false
set_option linter.unusedSimpArgs false
theorem txt_isC {W D : Int} (h : LK W D) {a : List Int} (ha : IsD D a) (hl : a.length = W.toNat) : isC W D (txt a) = true := by
  unfold isC
  rw [txt_size, hl, txt_isT (LK.d h) ha, (LK.w h).1]
  simp
theorem n1_at {D : Int} : ∀ {a b : List Int}, a.length = b.length → N1 D a b → ∃ i, ∃ (hi : i < a.length) (hb : i < b.length), (∀ j, j < i → a[j]? = b[j]?) ∧ b[i] = (a[i] + 1) % D ∧ b = a.set i ((a[i] + 1) % D)
  | [], [], _, h => h.elim
  | [], _ :: _, _, h => h.elim
  | _ :: _, [], _, h => h.elim
  | x :: xs, y :: ys, hl, h => by
    rcases h with ⟨rfl, h⟩ | ⟨rfl, h⟩
    · obtain ⟨i, hi, hb, h2, h3, h4⟩ := n1_at (by simpa using hl) h
      refine ⟨i + 1, by simpa using hi, by simpa using hb, ?_, by simpa using h3, by simpa using h4⟩
      intro j hj
      cases j with
      | zero => rfl
      | succ j => simpa using h2 j (by omega)
    · exact ⟨0, by simp, by simp, fun j hj => by omega, by simpa using h, by simp [h]⟩
theorem up_ne {D x : Int} (hD : 2 ≤ D) (h0 : 0 ≤ x) (h1 : x < D) : x ≠ (x + 1) % D := by
  rw [up_mod ⟨h0, h1⟩ hD]; split <;> omega
theorem turn1 {W D : Int} (h : LK W D) {a b : List Int} (ha : IsD D a) (hb : IsD D b) (hl : a.length = W.toNat) (hlb : b.length = W.toNat) (hn : N1 D a b) :
    ∃ i : Nat, i < W.toNat ∧ Ev (fun k => spec_orTurn.f k W D (txt a) (txt b)) ((i : Int), 1) ∧ Ev (fun k => impl_Lock_between.f k W D (txt a) (txt b)) ((i : Int), 1, true) ∧ tur D i 1 a = b := by
  obtain ⟨hw, hw6, hw0⟩ := LK.w h
  obtain ⟨i, hi, hib, h2, h3, h4⟩ := n1_at (hl.trans hlb.symm) hn
  have x := IsD.get ha hi
  have hne : a[i] ≠ b[i] := by rw [h3]; exact up_ne (LK.d h).1 x.1 x.2
  have e1 := orTurn_ev (W := W) (LK.d h) ha hb (by omega) (by omega) hi hib hne h2
  have e2 := between_ev h ha hb hl hlb hi hib hne h2 (.inl ⟨h3, h4⟩)
  rw [if_pos h3.symm] at e1 e2
  refine ⟨i, by omega, e1, e2, ?_⟩
  unfold tur
  rw [List.getD_eq_getElem?_getD, List.getElem?_eq_getElem hi]
  exact h4.symm
theorem turnX {W D : Int} (h : LK W D) {a b : List Int} (ha : IsD D a) (hb : IsD D b) (hl : a.length = W.toNat) (hlb : b.length = W.toNat) (hn : Nx D a b) :
    ∃ (i : Nat) (e : Int), i < W.toNat ∧ (e = 1 ∨ e = -1) ∧ Ev (fun k => spec_orTurn.f k W D (txt a) (txt b)) ((i : Int), e) ∧ Ev (fun k => impl_Lock_between.f k W D (txt a) (txt b)) ((i : Int), e, true) ∧ tur D i e a = b := by
  obtain ⟨hw, hw6, hw0⟩ := LK.w h
  obtain ⟨i, hi, hib, hne, h2, h3⟩ := nx_at (hl.trans hlb.symm) hn
  have e1 := orTurn_ev (W := W) (LK.d h) ha hb (by omega) (by omega) hi hib hne h2
  have e2 := between_ev h ha hb hl hlb hi hib hne h2 h3
  have g : a.getD i 0 = a[i] := by rw [List.getD_eq_getElem?_getD, List.getElem?_eq_getElem hi]; rfl
  rcases h3 with ⟨h3, h4⟩ | ⟨h3, h4⟩
  · rw [if_pos h3.symm] at e1 e2
    exact ⟨i, 1, by omega, .inl rfl, e1, e2, by unfold tur; rw [g]; exact h4.symm⟩
  · rw [if_neg (fun q => h3 q.symm)] at e1 e2
    exact ⟨i, -1, by omega, .inr rfl, e1, e2, by unfold tur; rw [g]; exact h4.symm⟩
theorem turnWheel_ev {W D : Int} (h : LK W D) {a : List Int} (ha : IsD D a) (hl : a.length = W.toNat) {i : Nat} (hi : i < W.toNat) {e : Int} (he : e = 1 ∨ e = -1) :
    Ev (fun k => impl_TurnWheel.f k W D (txt a) (i : Int) e) (txt (tur D i e a), true) := by
  obtain ⟨hw, hw6, hw0⟩ := LK.w h
  have hh := has1 W D (txt a) (by rw [txt_size]; omega)
  rw [decide_eq_true h, txt_isC h ha hl] at hh
  have r0 : rd_T32 [(⟨(i : Int), e⟩ : S32)] 0 = ⟨(i : Int), e⟩ := rfl
  have w1 : wrap64 (0 + 1) = 1 := by rw [w64 (by omega) (by omega)]; rfl
  have ar : Ev (fun k => impl_areTurns.f k [(⟨(i : Int), e⟩ : S32)] W) true := by
    unfold impl_areTurns.f
    refine Ev.succ (Ev.succ ?_)
    simp only [impl_areTurns.l0, List.length_singleton, Int.natCast_one, if_pos (show (0 : Int) < 1 by omega), if_pos (show (0 : Int) ≤ 0 by omega), r0, within_eq, Option.bind_some, w64 (x := W - 1) (by omega) (by omega), decide_eq_true (show 0 ≤ (i : Int) ∧ (i : Int) ≤ W - 1 by omega), if_true, w1, if_neg (show ¬ (1 : Int) < 1 by omega), decide_eq_true (show (1 : Int) ≤ 200 by omega)]
    rcases he with rfl | rfl
    · simp only [if_true]; exact Ev.now _
    · simp only [if_neg (show ¬ (-1 : Int) = 1 by omega), if_true]; exact Ev.now _
  have key : Ev (fun k => impl_TurnWheels.f k W D (txt a) [(⟨(i : Int), e⟩ : S32)]) (txt (tur D i e a), true) := by
   unfold impl_TurnWheels.f
   refine Ev.bind hh ?_
   simp only [Bool.and_self, if_true]
   refine Ev.bind ar (Ev.succ ?_)
   simp only [impl_TurnWheels.j0, Bool.not_true, Bool.false_eq_true, if_false]
   refine Ev.succ ?_
   simp only [impl_TurnWheels.l0, List.length_singleton, Int.natCast_one, if_pos (show (0 : Int) < 1 by omega), if_pos (show (0 : Int) ≤ 0 by omega), r0, w1]
   refine Ev.bind (turned_ev (LK.d h) ha (by omega) (by omega) (by rcases he with rfl | rfl <;> omega)) (Ev.succ ?_)
   simp only [impl_TurnWheels.l0, if_neg (show ¬ (1 : Int) < 1 by omega)]
   exact Ev.now _
  unfold impl_TurnWheel.f
  exact Ev.bind key (Ev.now _)
def Rk (W D r : Int) : Prop := LK W D ∧ 0 ≤ r ∧ r < cnt W D
def rd_ (W D r : Int) : List Int := df D 0 (cod D W.toNat r)
def fd_ (W D r : Int) : List Int := fi D W.toNat r
theorem rd_fine {W D : Int} (h : LK W D) (r : Int) : (rd_ W D r).length = W.toNat ∧ IsD D (rd_ W D r) := ⟨(df_len _ _ _).trans (cod_len _ _ _), df_isD (by have := LK.d h; omega) _ _⟩
theorem fd_fine {W D r : Int} (h : Rk W D r) : (fd_ W D r).length = W.toNat ∧ IsD D (fd_ W D r) := ⟨fi_len .., fi_isD (by have := LK.d h.1; omega) _ _ h.2.1 h.2.2⟩
theorem rc_ok {W D r : Int} (h : Rk W D r) : Ev (fun k => spec_RoundCode.f k W D r) (txt (rd_ W D r), true) ∧ Ev (fun k => impl_RoundCode.f k W D r) (txt (rd_ W D r), true) := by
  have cb := cnt_bd h.1
  unfold Rk at h
  unfold spec_RoundCode.f impl_RoundCode.f
  refine ⟨Ev.bind (orRank_ev W D r) ?_, Ev.bind (isRank_ev W D r) ?_⟩
  · simp only [decide_eq_true h, if_true]
    exact Ev.bind (orRound_ev h.1 h.2.1 (by omega)) (Ev.now _)
  · simp only [decide_eq_true h, if_true]
    exact Ev.bind (round_ev h.1 h.2.1 (by omega)) (Ev.now _)
theorem rc_no {W D r : Int} (h : ¬ Rk W D r) : Ev (fun k => spec_RoundCode.f k W D r) ((⟨#[]⟩ : ByteArray), false) ∧ Ev (fun k => impl_RoundCode.f k W D r) ((⟨#[]⟩ : ByteArray), false) := by
  unfold Rk at h
  unfold spec_RoundCode.f impl_RoundCode.f
  refine ⟨Ev.bind (orRank_ev W D r) ?_, Ev.bind (isRank_ev W D r) ?_⟩
  · simp only [decide_eq_false h, Bool.false_eq_true, if_false]; exact Ev.now _
  · simp only [decide_eq_false h, Bool.false_eq_true, if_false]; exact Ev.now _
theorem fc_ok {W D r : Int} (h : Rk W D r) : Ev (fun k => spec_ForthCode.f k W D r) (txt (fd_ W D r), true) ∧ Ev (fun k => impl_ForthCode.f k W D r) (txt (fd_ W D r), true) := by
  unfold Rk at h
  unfold spec_ForthCode.f impl_ForthCode.f
  refine ⟨Ev.bind (orRank_ev W D r) ?_, Ev.bind (isRank_ev W D r) ?_⟩
  · simp only [decide_eq_true h, if_true]
    exact Ev.bind (orForth_ev h.1 h.2.1 h.2.2) (Ev.now _)
  · simp only [decide_eq_true h, if_true]
    exact Ev.bind (forth_ev h.1 h.2.1 h.2.2) (Ev.now _)
theorem fc_no {W D r : Int} (h : ¬ Rk W D r) : Ev (fun k => spec_ForthCode.f k W D r) ((⟨#[]⟩ : ByteArray), false) ∧ Ev (fun k => impl_ForthCode.f k W D r) ((⟨#[]⟩ : ByteArray), false) := by
  unfold Rk at h
  unfold spec_ForthCode.f impl_ForthCode.f
  refine ⟨Ev.bind (orRank_ev W D r) ?_, Ev.bind (isRank_ev W D r) ?_⟩
  · simp only [decide_eq_false h, Bool.false_eq_true, if_false]; exact Ev.now _
  · simp only [decide_eq_false h, Bool.false_eq_true, if_false]; exact Ev.now _
theorem nx_mod {W D r : Int} (h : Rk W D r) : Rk W D ((r + 1) % cnt W D) := by
  have cb := cnt_bd h.1
  exact ⟨h.1, Int.emod_nonneg _ (by omega), Int.emod_lt_of_pos _ (by omega)⟩
theorem tr_ok {W D r : Int} (h : Rk W D r) : ∃ i : Nat, i < W.toNat ∧ Ev (fun k => spec_TurnInRound.f k W D r) ((i : Int), 1, true) ∧ Ev (fun k => impl_TurnInRound.f k W D r) ((i : Int), 1, true) ∧ tur D i 1 (rd_ W D r) = rd_ W D ((r + 1) % cnt W D) := by
  have hn := nx_mod h
  have cb := cnt_bd h.1
  obtain ⟨hw, hw6, hw0⟩ := LK.w h.1
  have hD := LK.d h.1
  have em : Int.tmod (r + 1) (cnt W D) = (r + 1) % cnt W D := Int.tmod_eq_emod_of_nonneg (by have := h.2.1; omega)
  have nx : N1 D (rd_ W D r) (rd_ W D ((r + 1) % cnt W D)) := round_next (by omega) W.toNat 0 r hw0 h.2.1 h.2.2
  obtain ⟨i, hi, h1, h2, h3⟩ := turn1 h.1 (rd_fine h.1 r).2 (rd_fine h.1 _).2 (rd_fine h.1 r).1 (rd_fine h.1 _).1 nx
  unfold Rk at h hn
  unfold spec_TurnInRound.f impl_TurnInRound.f
  refine ⟨i, hi, Ev.bind (orRank_ev W D r) ?_, Ev.bind (isRank_ev W D r) ?_, h3⟩
  · simp only [decide_eq_true h, if_true]
    refine Ev.bind (orRound_ev h.1 h.2.1 (by omega)) (Ev.bind (whCount_ev h.1) ?_)
    simp only [if_neg (show ¬ cnt W D = 0 by omega), w64 (x := r + 1) (by omega) (by omega), em]
    exact Ev.bind (orRound_ev h.1 hn.2.1 (by omega)) (Ev.bind h1 (Ev.now _))
  · simp only [decide_eq_true h, if_true]
    refine Ev.bind (round_ev h.1 h.2.1 (by omega)) (Ev.bind (count_ev h.1) ?_)
    simp only [if_neg (show ¬ cnt W D = 0 by omega), w64 (x := r + 1) (by omega) (by omega), em]
    exact Ev.bind (round_ev h.1 hn.2.1 (by omega)) (Ev.bind h2 (Ev.now _))
theorem tr_no {W D r : Int} (h : ¬ Rk W D r) : Ev (fun k => spec_TurnInRound.f k W D r) ((0 : Int), (0 : Int), false) ∧ Ev (fun k => impl_TurnInRound.f k W D r) ((0 : Int), (0 : Int), false) := by
  unfold Rk at h
  unfold spec_TurnInRound.f impl_TurnInRound.f
  refine ⟨Ev.bind (orRank_ev W D r) ?_, Ev.bind (isRank_ev W D r) ?_⟩
  · simp only [decide_eq_false h, Bool.false_eq_true, if_false]; exact Ev.now _
  · simp only [decide_eq_false h, Bool.false_eq_true, if_false]; exact Ev.now _
theorem tf_ok {W D r : Int} (h : Rk W D r) (hr : r + 1 < cnt W D) : ∃ (i : Nat) (e : Int), i < W.toNat ∧ (e = 1 ∨ e = -1) ∧ Ev (fun k => spec_TurnInForth.f k W D r) ((i : Int), e, true) ∧ Ev (fun k => impl_TurnInForth.f k W D r) ((i : Int), e, true) ∧ tur D i e (fd_ W D r) = fd_ W D (r + 1) := by
  have hn : Rk W D (r + 1) := ⟨h.1, by have := h.2.1; omega, hr⟩
  have cb := cnt_bd h.1
  have hD := LK.d h.1
  obtain ⟨i, e, hi, he, h1, h2, h3⟩ := turnX h.1 (fd_fine h).2 (fd_fine hn).2 (fd_fine h).1 (fd_fine hn).1 (fi_next (by omega) W.toNat r h.2.1 hr)
  unfold Rk at h hn
  unfold spec_TurnInForth.f impl_TurnInForth.f
  refine ⟨i, e, hi, he, Ev.bind (orRank_ev W D r) ?_, Ev.bind (isRank_ev W D r) ?_, h3⟩
  · simp only [decide_eq_true h, if_true]
    refine Ev.bind (whCount_ev h.1) (Ev.succ ?_)
    rw [w64 (x := cnt W D - 1) (by omega) (by omega)]
    simp only [beq_false_of_ne (show r ≠ cnt W D - 1 by omega), spec_TurnInForth.j0, Bool.false_eq_true, if_false, w64 (x := r + 1) (by omega) (by omega)]
    exact Ev.bind (orForth_ev h.1 h.2.1 h.2.2) (Ev.bind (orForth_ev h.1 (r := r + 1) (by omega) hr) (Ev.bind h1 (Ev.now _)))
  · simp only [decide_eq_true h, if_true]
    refine Ev.bind (count_ev h.1) (Ev.succ ?_)
    rw [w64 (x := cnt W D - 1) (by omega) (by omega)]
    simp only [beq_false_of_ne (show r ≠ cnt W D - 1 by omega), impl_TurnInForth.j0, Bool.false_eq_true, if_false, w64 (x := r + 1) (by omega) (by omega)]
    exact Ev.bind (forth_ev h.1 h.2.1 h.2.2) (Ev.bind (forth_ev h.1 (r := r + 1) (by omega) hr) (Ev.bind h2 (Ev.now _)))
theorem tf_no {W D r : Int} (h : ¬ (Rk W D r ∧ r + 1 < cnt W D)) : Ev (fun k => spec_TurnInForth.f k W D r) ((0 : Int), (0 : Int), false) ∧ Ev (fun k => impl_TurnInForth.f k W D r) ((0 : Int), (0 : Int), false) := by
  unfold Rk at h
  unfold spec_TurnInForth.f impl_TurnInForth.f
  by_cases g : LK W D ∧ 0 ≤ r ∧ r < cnt W D
  · have cb := cnt_bd g.1
    have hr : r = cnt W D - 1 := by
      have : ¬ r + 1 < cnt W D := fun q => h ⟨g, q⟩
      omega
    refine ⟨Ev.bind (orRank_ev W D r) ?_, Ev.bind (isRank_ev W D r) ?_⟩
    · simp only [decide_eq_true g, if_true]
      refine Ev.bind (whCount_ev g.1) (Ev.succ ?_)
      rw [w64 (x := cnt W D - 1) (by omega) (by omega), ← hr]
      simp only [beq_self_eq_true, spec_TurnInForth.j0, if_true]
      exact Ev.now _
    · simp only [decide_eq_true g, if_true]
      refine Ev.bind (count_ev g.1) (Ev.succ ?_)
      rw [w64 (x := cnt W D - 1) (by omega) (by omega), ← hr]
      simp only [beq_self_eq_true, impl_TurnInForth.j0, if_true]
      exact Ev.now _
  · refine ⟨Ev.bind (orRank_ev W D r) ?_, Ev.bind (isRank_ev W D r) ?_⟩
    · simp only [decide_eq_false g, Bool.false_eq_true, if_false]
      refine Ev.succ ?_
      simp only [spec_TurnInForth.j0, if_true]
      exact Ev.now _
    · simp only [decide_eq_false g, Bool.false_eq_true, if_false]
      refine Ev.succ ?_
      simp only [impl_TurnInForth.j0, if_true]
      exact Ev.now _
theorem bothRoundRank (W D : Int) (s : ByteArray) (hs : s.size ≤ 140737488351232) : ∃ r : Int × Bool, Ev (fun k => spec_RoundRank.f k W D s) r ∧ Ev (fun k => impl_RoundRank.f k W D s) r ∧ r = if LK W D ∧ isC W D s = true then (num D (ps D 0 (digs s)), true) else (0, false) := by
  by_cases h : LK W D ∧ isC W D s = true
  · rw [if_pos h]
    refine ⟨_, specRoundRank_ev h.1 h.2, ?_, rfl⟩
    unfold impl_RoundRank.f
    refine Ev.bind (has1 W D s hs) ?_
    simp only [decide_eq_true h.1, h.2, Bool.and_self, if_true]
    exact Ev.bind (roundRank_ev h.1 h.2) (Ev.now _)
  · have e : (decide (LK W D) && isC W D s) = false := by
      rw [Bool.and_eq_false_iff]
      by_cases g : LK W D
      · right; rw [← Bool.not_eq_true]; exact fun q => h ⟨g, q⟩
      · left; exact decide_eq_false g
    rw [if_neg h]
    refine ⟨(0, false), ?_, ?_, rfl⟩
    · unfold spec_RoundRank.f
      refine Ev.bind (whAsked_ev W D s hs) ?_
      simp only [e, Bool.false_eq_true, if_false]; exact Ev.now _
    · unfold impl_RoundRank.f
      refine Ev.bind (has1 W D s hs) ?_
      simp only [e, Bool.false_eq_true, if_false]; exact Ev.now _
/-- The ranks of the codes of a rank. -/
theorem back_rank {W D r : Int} (h : Rk W D r) : num D (ps D 0 (digs (txt (rd_ W D r)))) = r ∧ fb D (digs (txt (fd_ W D r))) = r := by
  have hD := LK.d h.1
  have hD0 : 0 < D := by omega
  rw [digs_txt (IsD.mono (rd_fine h.1 r).2 hD.2), digs_txt (IsD.mono (fd_fine h).2 hD.2)]
  unfold rd_ fd_
  rw [ps_df hD0 _ _ (cod_isD hD0 _ _), num_cod hD0, fb_fi hD0 _ _ h.2.1 h.2.2]
  exact ⟨Int.emod_eq_of_lt h.2.1 h.2.2, rfl⟩
/-- The codes of the ranks of a code. -/
theorem back_code {W D : Int} (h : LK W D) {s : ByteArray} (hc : isC W D s = true) : Rk W D (num D (ps D 0 (digs s))) ∧ Rk W D (fb D (digs s)) ∧ txt (rd_ W D (num D (ps D 0 (digs s)))) = s ∧ txt (fd_ W D (fb D (digs s))) = s := by
  have hD := LK.d h
  have hD0 : 0 < D := by omega
  obtain ⟨hl, hd, ht⟩ := codeOf h hc
  have pl : (ps D 0 (digs s)).length = W.toNat := (ps_len _ _ _).trans hl
  have b1 := num_bd hD0 (ps D 0 (digs s)) (ps_isD hD0 _ _)
  have b2 := fb_bd hD0 (digs s) hd
  rw [pl] at b1
  rw [hl] at b2
  refine ⟨⟨h, b1.1, by unfold cnt; omega⟩, ⟨h, b2.1, by unfold cnt; omega⟩, ?_, ?_⟩
  · unfold rd_
    conv => lhs; arg 1; arg 3; rw [← pl]
    rw [cod_num hD0 _ (ps_isD hD0 _ _), df_ps hD0 _ _ hd, ht]
  · unfold fd_
    conv => lhs; arg 1; arg 2; rw [← hl]
    rw [fi_fb hD0 _ hd, ht]
theorem isTurn_ev {W D : Int} (h : LK W D) (l : List ByteArray) (hl : l.length ≤ 100000000) (hs : ∀ s ∈ l, s.size ≤ 140737488351232) : Ev (fun k => impl_IsTurnOrder.f k W D l) (ordB W D l, true) := by
  unfold impl_IsTurnOrder.f
  simp only [IsLock_eq, Option.bind_some, decide_eq_true h, if_true]
  refine Ev.bind (turnsOf_ev h l hl hs) ?_
  rw [ordR_ok]; exact Ev.now _
theorem ordB_of {W D : Int} (h : LK W D) {n : Nat} (hn : n ≤ 1000) (f : Nat → List Int) (hf : ∀ i, i < n → (f i).length = W.toNat ∧ IsD D (f i)) (hi : ∀ i j, i < j → j < n → f i ≠ f j) (hx : ∀ i, i + 1 < n → Nx D (f i) (f (i + 1))) :
    ordB W D ((List.range n).map fun i => txt (f i)) = true := by
  have hD := LK.d h
  have gl : ((List.range n).map fun i => txt (f i)).length = n := by simp
  have g : ∀ i, i < n → gt ((List.range n).map fun i => txt (f i)) i = txt (f i) := by
    intro i hi
    rw [gt_get _ (by rw [gl]; exact hi)]
    simp
  unfold ordB allFrom
  rw [Bool.and_eq_true]
  refine ⟨by rw [gl]; exact decide_eq_true hn, ?_⟩
  rw [List.all_eq_true]
  intro j hj
  rw [List.mem_range, gl, Nat.sub_zero] at hj
  rw [Nat.zero_add]
  unfold okAt
  rw [g j hj, Bool.and_eq_true, Bool.and_eq_true]
  refine ⟨txt_isC h (hf j hj).2 (hf j hj).1, ?_, ?_⟩
  · rw [Bool.not_eq_true', ← Bool.not_eq_true, hasS_iff]
    intro hm
    obtain ⟨i, hi', e⟩ := List.mem_iff_getElem.mp hm
    rw [List.length_take, gl] at hi'
    have e2 : txt (f i) = txt (f j) := by
      rw [← e, List.getElem_take]; simp
    exact hi i j (by omega) hj (txt_inj (IsD.mono (hf i (by omega)).2 hD.2) (IsD.mono (hf j hj).2 hD.2) e2)
  · cases j with
    | zero => rfl
    | succ j =>
      rw [Bool.or_eq_true]
      right
      rw [Nat.add_sub_cancel, g j (by omega)]
      refine decide_eq_true ((ds_nx h (txt_isC h (hf j (by omega)).2 (hf j (by omega)).1) (txt_isC h (hf (j + 1) hj).2 (hf (j + 1) hj).1)).mpr ?_)
      rw [digs_txt (IsD.mono (hf j (by omega)).2 hD.2), digs_txt (IsD.mono (hf (j + 1) hj).2 hD.2)]
      exact hx j hj
theorem aTexts_ev (l : List ByteArray) (hl : l.length ≤ 100000000000000) : Ev (fun k => laws_aTexts.f k l l) true := by
  unfold laws_aTexts.f
  simp only [if_true]
  refine ev_loop (g := fun j k => laws_aTexts.l0 k l l (l.length : Int) (j : Int)) l.length ?_ ?_
  · intro j hj ih
    refine Ev.succ ?_
    simp only [laws_aTexts.l0, if_pos (show (j : Int) < (l.length : Int) by omega), if_pos (show (0 : Int) ≤ (j : Int) by omega), if_true, w64 (x := (j : Int) + 1) (by omega) (by omega)]
    exact ih
  · refine Ev.succ ?_
    simp only [laws_aTexts.l0, if_neg (show ¬ ((l.length : Nat) : Int) < (l.length : Int) by omega)]
    exact Ev.now _
theorem aSame_ev (l : List Int) (hl : l.length ≤ 100000000000000) : Ev (fun k => laws_aSame.f k l l) true := by
  unfold laws_aSame.f
  simp only [if_true]
  refine ev_loop (g := fun j k => laws_aSame.l0 k l l (l.length : Int) (j : Int)) l.length ?_ ?_
  · intro j hj ih
    refine Ev.succ ?_
    simp only [laws_aSame.l0, if_pos (show (j : Int) < (l.length : Int) by omega), if_pos (show (0 : Int) ≤ (j : Int) by omega), if_true, w64 (x := (j : Int) + 1) (by omega) (by omega)]
    exact ih
  · refine Ev.succ ?_
    simp only [laws_aSame.l0, if_neg (show ¬ ((l.length : Nat) : Int) < (l.length : Int) by omega)]
    exact Ev.now _
theorem countAll_ev {W D : Int} (h : LK W D) : Ev (fun k => impl_CountCodes.f k W D) (cnt W D, true) := by
  unfold impl_CountCodes.f
  simp only [IsLock_eq, Option.bind_some, decide_eq_true h, if_true]
  exact Ev.bind (count_ev h) (Ev.now _)
def wtChk (W D : Int) : Bool := match impl_WheelTurns.f 40 W D, spec_WheelTurns.f 40 W D with
  | some a, some b => decide (a = b) && a.2 && decide (a.1.foldl (fun s x => wrap64 (s + x)) 0 = D ^ W.toNat) && decide ((a.1.length : Int) = W) && decide (rd a.1 0 = D)
  | _, _ => false
theorem wt_all : ((List.range 6).all fun i => (List.range 9).all fun j => wtChk (i + 1) (j + 2)) = true := by decide +kernel
theorem wt_ok {W D : Int} (h : LK W D) : ∃ l : List Int, Ev (fun k => spec_WheelTurns.f k W D) (l, true) ∧ Ev (fun k => impl_WheelTurns.f k W D) (l, true) ∧ l.foldl (fun s x => wrap64 (s + x)) 0 = cnt W D ∧ (l.length : Int) = W ∧ rd l 0 = D := by
  have := for_good (p := wtChk) wt_all h
  unfold wtChk at this
  split at this
  · rename_i a b ha hb
    simp only [Bool.and_eq_true, decide_eq_true_eq] at this
    obtain ⟨⟨⟨⟨e, t⟩, s1⟩, s2⟩, s3⟩ := this
    obtain ⟨a1, a2⟩ := a
    obtain rfl := e
    simp only at t s1 s2 s3
    subst t
    exact ⟨a1, Ev.of (spec_WheelTurns.mono W D) hb, Ev.of (impl_WheelTurns.mono W D) ha, s1, s2, s3⟩
  · exact absurd this (by simp)
theorem wt_no {W D : Int} (h : ¬ LK W D) : Ev (fun k => spec_WheelTurns.f k W D) (([] : List Int), false) ∧ Ev (fun k => impl_WheelTurns.f k W D) (([] : List Int), false) := by
  unfold spec_WheelTurns.f impl_WheelTurns.f
  simp only [whGood_eq, IsLock_eq, Option.bind_some, decide_eq_false h, Bool.false_eq_true, if_false]
  exact ⟨Ev.now _, Ev.now _⟩
end Go.Proofs.Ytijbngmlaggclaa.OT
namespace Go.Proofs.Ytijbngmlaggclaa.OP
open Go.RowKit Go.Proofs.Ytijbngmlaggclaa.P Go.Proofs.Ytijbngmlaggclaa.B Go.Proofs.Ytijbngmlaggclaa.C Go.Proofs.Ytijbngmlaggclaa.L Go.Proofs.Ytijbngmlaggclaa.A Go.Proofs.Ytijbngmlaggclaa.O Go.Proofs.Ytijbngmlaggclaa.O2 Go.Proofs.Ytijbngmlaggclaa.O3 Go.Proofs.Ytijbngmlaggclaa.OF Go.Proofs.Ytijbngmlaggclaa.OT Go.Proofs.Ytijbngmlaggclaa.R Go.Proofs.Ytijbngmlaggclaa.D1 Go.Proofs.Ytijbngmlaggclaa.D2 Go.Proofs.Ytijbngmlaggclaa.D4 Go.Proofs.YtijbngmlaggclaaW.PrintWords Go.Proofs.YtijbngmlaggclaaW.PrintLast Go.Proofs.YtijbngmlaggclaaW.PrintMore
set_option linter.unusedVariables false
set_option linter.unusedSimpArgs false
def fpart (W D r : Int) (n : Nat) : List ByteArray := (List.range n).map fun i : Nat => txt (fi D W.toNat (r + i))
theorem fspecPart {W D r : Int} (h : LK W D) (h0 : 0 ≤ r) {n : Nat} (hn : n ≤ 60) (h1 : r + n ≤ cnt W D) : Ev (fun k => spec_ForthPart.l0 k r (n : Int) [] 0 W D) (fpart W D r n, true) := by
  have cb := cnt_bd h
  refine ev_loop (g := fun j k => spec_ForthPart.l0 k r (n : Int) (fpart W D r j) (j : Int) W D) n ?_ ?_
  · intro j hj ih
    refine Ev.succ ?_
    have e : (fpart W D r j).length = j := by simp [fpart]
    simp only [spec_ForthPart.l0, if_pos (show (j : Int) < (n : Int) by omega), w64 (x := r + j) (by omega) (by omega), e, if_pos (show j < 8796093022208 by omega), w64 (x := (j : Int) + 1) (by omega) (by omega)]
    refine Ev.bind (orForth_ev h (r := r + j) (by omega) (by omega)) ?_
    have e2 : fpart W D r (j + 1) = fpart W D r j ++ [txt (fi D W.toNat (r + j))] := by simp [fpart, List.range_succ]
    rw [e2] at ih
    exact ih
  · refine Ev.succ ?_
    simp only [spec_ForthPart.l0, if_neg (show ¬ ((n : Nat) : Int) < (n : Int) by omega)]
    exact Ev.now _
theorem fimplPart {W D r : Int} (h : LK W D) (h0 : 0 ≤ r) {n : Nat} (hn : n ≤ 60) (h1 : r + n ≤ cnt W D) : Ev (fun k => impl_ForthPart.l0 k r [] (n : Int) 0 W D) (fpart W D r n, true) := by
  have cb := cnt_bd h
  refine ev_loop (g := fun j k => impl_ForthPart.l0 k r (fpart W D r j) (n : Int) (j : Int) W D) n ?_ ?_
  · intro j hj ih
    refine Ev.succ ?_
    have e : (fpart W D r j).length = j := by simp [fpart]
    simp only [impl_ForthPart.l0, if_pos (show (j : Int) < (n : Int) by omega), w64 (x := r + j) (by omega) (by omega), e, if_pos (show j < 8796093022208 by omega), w64 (x := (j : Int) + 1) (by omega) (by omega)]
    refine Ev.bind (forth_ev h (r := r + j) (by omega) (by omega)) ?_
    have e2 : fpart W D r (j + 1) = fpart W D r j ++ [txt (fi D W.toNat (r + j))] := by simp [fpart, List.range_succ]
    rw [e2] at ih
    exact ih
  · refine Ev.succ ?_
    simp only [impl_ForthPart.l0, if_neg (show ¬ ((n : Nat) : Int) < (n : Int) by omega)]
    exact Ev.now _
theorem fboth (W D r n : Int) (hr : -9223372036854775808 ≤ r ∧ r ≤ 9223372036854775807) : ∃ l b, l.length ≤ 60 ∧ ((b = true ∧ ((LK W D ∧ 0 ≤ r ∧ r < cnt W D) ∧ (0 ≤ n ∧ n ≤ 60) ∧ r + n ≤ cnt W D) ∧ l = fpart W D r n.toNat) ∨ (b = false ∧ l = [] ∧ ¬ ((LK W D ∧ 0 ≤ r ∧ r < cnt W D) ∧ (0 ≤ n ∧ n ≤ 60) ∧ r + n ≤ cnt W D))) ∧ Ev (fun k => spec_ForthPart.f k W D r n) (l, b) ∧ Ev (fun k => impl_ForthPart.f k W D r n) (l, b) := by
  unfold spec_ForthPart.f impl_ForthPart.f
  by_cases h : LK W D ∧ 0 ≤ r ∧ r < cnt W D
  · have cb := cnt_bd h.1
    by_cases hn : (0 ≤ n ∧ n ≤ 60) ∧ r + n ≤ cnt W D
    · obtain ⟨m, rfl⟩ : ∃ m : Nat, n = m := ⟨n.toNat, by omega⟩
      refine ⟨fpart W D r m, true, by simp [fpart]; omega, .inl ⟨rfl, ⟨h, hn.1, hn.2⟩, rfl⟩, Ev.bind (orRank_ev W D r) ?_, Ev.bind (isRank_ev W D r) ?_⟩
      · simp only [decide_eq_true h, if_true, l1In_eq, Option.bind_some, decide_eq_true hn.1]
        refine Ev.bind (whCount_ev h.1) (Ev.succ ?_)
        simp only [w64 (x := r + (m : Int)) (by omega) (by omega), decide_eq_false (show ¬ r + (m : Int) > cnt W D by omega), spec_ForthPart.j0, Bool.false_eq_true, if_false]
        exact fspecPart h.1 h.2.1 (by omega) hn.2
      · simp only [decide_eq_true h, if_true]
        refine Ev.bind (count_ev h.1) ?_
        have e : (0 : Int) ≤ (m : Int) ∧ (m : Int) ≤ mn 60 (wrap64 (cnt W D - r)) := by rw [w64 (by omega) (by omega)]; unfold mn; split <;> omega
        simp only [within_eq, Option.bind_some, decide_eq_true e, Bool.not_true]
        refine Ev.succ ?_
        simp only [impl_ForthPart.j0, Bool.false_eq_true, if_false]
        exact fimplPart h.1 h.2.1 (by omega) hn.2
    · refine ⟨[], false, by simp, .inr ⟨rfl, rfl, fun q => hn ⟨q.2.1, q.2.2⟩⟩, Ev.bind (orRank_ev W D r) ?_, Ev.bind (isRank_ev W D r) ?_⟩
      · simp only [decide_eq_true h, if_true, l1In_eq, Option.bind_some]
        by_cases g : 0 ≤ n ∧ n ≤ 60
        · simp only [decide_eq_true g, if_true]
          refine Ev.bind (whCount_ev h.1) (Ev.succ ?_)
          simp only [w64 (x := r + n) (by omega) (by omega), decide_eq_true (show r + n > cnt W D by omega), spec_ForthPart.j0, if_true]
          exact Ev.now _
        · simp only [decide_eq_false g, Bool.false_eq_true, if_false]
          refine Ev.succ ?_
          simp only [spec_ForthPart.j0, if_true]
          exact Ev.now _
      · simp only [decide_eq_true h, if_true]
        refine Ev.bind (count_ev h.1) ?_
        have e : ¬ ((0 : Int) ≤ n ∧ n ≤ mn 60 (wrap64 (cnt W D - r))) := by rw [w64 (by omega) (by omega)]; unfold mn; split <;> omega
        simp only [within_eq, Option.bind_some, decide_eq_false e, Bool.not_false]
        refine Ev.succ ?_
        simp only [impl_ForthPart.j0, if_true]
        exact Ev.now _
  · refine ⟨[], false, by simp, .inr ⟨rfl, rfl, fun q => h q.1⟩, Ev.bind (orRank_ev W D r) ?_, Ev.bind (isRank_ev W D r) ?_⟩
    · simp only [decide_eq_false h, Bool.false_eq_true, if_false]
      refine Ev.succ ?_
      simp only [spec_ForthPart.j0, if_true]
      exact Ev.now _
    · simp only [decide_eq_false h, Bool.false_eq_true, if_false]
      refine Ev.succ ?_
      simp only [impl_ForthPart.j0, if_true]
      exact Ev.now _
def rpart (W D r : Int) (n : Nat) : List ByteArray := (List.range n).map fun i : Nat => txt (df D 0 (cod D W.toNat ((r + i) % cnt W D)))
theorem rspecPart {W D r : Int} (h : LK W D) (h0 : 0 ≤ r) (h1 : r < cnt W D) {n : Nat} (hn : n ≤ 60) : Ev (fun k => spec_RoundPart.l0 k r (n : Int) [] 0 W D) (rpart W D r n, true) := by
  have cb := cnt_bd h
  refine ev_loop (g := fun j k => spec_RoundPart.l0 k r (n : Int) (rpart W D r j) (j : Int) W D) n ?_ ?_
  · intro j hj ih
    refine Ev.succ ?_
    have e : (rpart W D r j).length = j := by simp [rpart]
    have m0 := Int.emod_nonneg (r + j) (b := cnt W D) (by omega)
    have m1 := Int.emod_lt_of_pos (r + j) (b := cnt W D) (by omega)
    have em : Int.tmod (r + j) (cnt W D) = (r + j) % cnt W D := Int.tmod_eq_emod_of_nonneg (by omega)
    simp only [spec_RoundPart.l0, if_pos (show (j : Int) < (n : Int) by omega), w64 (x := r + j) (by omega) (by omega), e, if_pos (show j < 8796093022208 by omega), w64 (x := (j : Int) + 1) (by omega) (by omega)]
    refine Ev.bind (whCount_ev h) ?_
    simp only [if_neg (show ¬ cnt W D = 0 by omega), em]
    refine Ev.bind (orRound_ev h m0 (by omega)) ?_
    have e2 : rpart W D r (j + 1) = rpart W D r j ++ [txt (df D 0 (cod D W.toNat ((r + j) % cnt W D)))] := by simp [rpart, List.range_succ]
    rw [e2] at ih
    exact ih
  · refine Ev.succ ?_
    simp only [spec_RoundPart.l0, if_neg (show ¬ ((n : Nat) : Int) < (n : Int) by omega)]
    exact Ev.now _
theorem rimplPart {W D r : Int} (h : LK W D) (h0 : 0 ≤ r) (h1 : r < cnt W D) {n : Nat} (hn : n ≤ 60) : Ev (fun k => impl_RoundPart.l0 k r [] (n : Int) 0 W D) (rpart W D r n, true) := by
  have cb := cnt_bd h
  refine ev_loop (g := fun j k => impl_RoundPart.l0 k r (rpart W D r j) (n : Int) (j : Int) W D) n ?_ ?_
  · intro j hj ih
    refine Ev.succ ?_
    have e : (rpart W D r j).length = j := by simp [rpart]
    have m0 := Int.emod_nonneg (r + j) (b := cnt W D) (by omega)
    have m1 := Int.emod_lt_of_pos (r + j) (b := cnt W D) (by omega)
    have em : Int.tmod (r + j) (cnt W D) = (r + j) % cnt W D := Int.tmod_eq_emod_of_nonneg (by omega)
    simp only [impl_RoundPart.l0, if_pos (show (j : Int) < (n : Int) by omega), w64 (x := r + j) (by omega) (by omega), e, if_pos (show j < 8796093022208 by omega), w64 (x := (j : Int) + 1) (by omega) (by omega)]
    refine Ev.bind (count_ev h) ?_
    simp only [if_neg (show ¬ cnt W D = 0 by omega), em]
    refine Ev.bind (round_ev h m0 (by omega)) ?_
    have e2 : rpart W D r (j + 1) = rpart W D r j ++ [txt (df D 0 (cod D W.toNat ((r + j) % cnt W D)))] := by simp [rpart, List.range_succ]
    rw [e2] at ih
    exact ih
  · refine Ev.succ ?_
    simp only [impl_RoundPart.l0, if_neg (show ¬ ((n : Nat) : Int) < (n : Int) by omega)]
    exact Ev.now _
theorem rboth (W D r n : Int) (hr : -9223372036854775808 ≤ r ∧ r ≤ 9223372036854775807) : ∃ l b, l.length ≤ 60 ∧ ((b = true ∧ ((LK W D ∧ 0 ≤ r ∧ r < cnt W D) ∧ (0 ≤ n ∧ n ≤ 60)) ∧ l = rpart W D r n.toNat) ∨ (b = false ∧ l = [] ∧ ¬ ((LK W D ∧ 0 ≤ r ∧ r < cnt W D) ∧ (0 ≤ n ∧ n ≤ 60)))) ∧ Ev (fun k => spec_RoundPart.f k W D r n) (l, b) ∧ Ev (fun k => impl_RoundPart.f k W D r n) (l, b) := by
  unfold spec_RoundPart.f impl_RoundPart.f
  by_cases h : LK W D ∧ 0 ≤ r ∧ r < cnt W D
  · have cb := cnt_bd h.1
    by_cases hn : 0 ≤ n ∧ n ≤ 60
    · obtain ⟨m, rfl⟩ : ∃ m : Nat, n = m := ⟨n.toNat, by omega⟩
      refine ⟨rpart W D r m, true, by simp [rpart]; omega, .inl ⟨rfl, ⟨h, hn⟩, rfl⟩, Ev.bind (orRank_ev W D r) ?_, Ev.bind (isRank_ev W D r) ?_⟩
      · simp only [decide_eq_true h, if_true, l1In_eq, Option.bind_some, decide_eq_true hn, Bool.not_true]
        refine Ev.succ ?_
        simp only [spec_RoundPart.j0, Bool.false_eq_true, if_false]
        exact rspecPart h.1 h.2.1 h.2.2 (by omega)
      · simp only [decide_eq_true h, if_true, within_eq, Option.bind_some, decide_eq_true hn, Bool.not_true]
        refine Ev.succ ?_
        simp only [impl_RoundPart.j0, Bool.false_eq_true, if_false]
        exact rimplPart h.1 h.2.1 h.2.2 (by omega)
    · refine ⟨[], false, by simp, .inr ⟨rfl, rfl, fun q => hn q.2⟩, Ev.bind (orRank_ev W D r) ?_, Ev.bind (isRank_ev W D r) ?_⟩
      · simp only [decide_eq_true h, if_true, l1In_eq, Option.bind_some, decide_eq_false hn, Bool.not_false]
        refine Ev.succ ?_
        simp only [spec_RoundPart.j0, if_true]
        exact Ev.now _
      · simp only [decide_eq_true h, if_true, within_eq, Option.bind_some, decide_eq_false hn, Bool.not_false]
        refine Ev.succ ?_
        simp only [impl_RoundPart.j0, if_true]
        exact Ev.now _
  · refine ⟨[], false, by simp, .inr ⟨rfl, rfl, fun q => h q.1⟩, Ev.bind (orRank_ev W D r) ?_, Ev.bind (isRank_ev W D r) ?_⟩
    · simp only [decide_eq_false h, Bool.false_eq_true, if_false]
      refine Ev.succ ?_
      simp only [spec_RoundPart.j0, if_true]
      exact Ev.now _
    · simp only [decide_eq_false h, Bool.false_eq_true, if_false]
      refine Ev.succ ?_
      simp only [impl_RoundPart.j0, if_true]
      exact Ev.now _
theorem sizes_of {W D : Int} (h : LK W D) (f : Nat → List Int) (hf : ∀ i, (f i).length = W.toNat) (n : Nat) : ∀ s ∈ (List.range n).map (fun i => txt (f i)), s.size ≤ 140737488351232 := by
  intro s hs
  obtain ⟨i, _, rfl⟩ := List.mem_map.mp hs
  have := LK.w h
  rw [txt_size, hf i]; omega
theorem mod2 {a c : Int} (h0 : 0 ≤ a) (h1 : a < 2 * c) : a % c = if a < c then a else a - c := by
  split
  · exact Int.emod_eq_of_lt h0 (by omega)
  · rw [show a = (a - c) + 1 * c by omega, Int.add_mul_emod_self_right, Int.emod_eq_of_lt (by omega) (by omega)]; omega
theorem fpart_ord {W D r : Int} (h : LK W D) (h0 : 0 ≤ r) {n : Nat} (hn : n ≤ 60) (h1 : r + n ≤ cnt W D) : ordB W D (fpart W D r n) = true := by
  have hD := LK.d h
  have hD0 : 0 < D := by omega
  have rk : ∀ i : Nat, i < n → Rk W D (r + i) := fun i hi => ⟨h, by omega, by omega⟩
  refine ordB_of h (n := n) (by omega) (fun i : Nat => fi D W.toNat (r + i)) (fun i hi => fd_fine (rk i hi)) ?_ ?_
  · intro i j hij hj e
    have q1 := (back_rank (rk i (by omega))).2
    have q2 := (back_rank (rk j hj)).2
    have e' : fd_ W D (r + i) = fd_ W D (r + j) := e
    rw [e', q2] at q1
    omega
  · intro i hi
    have := fi_next hD0 W.toNat (r + i) (by omega) (show r + i + 1 < D ^ W.toNat by have : cnt W D = D ^ W.toNat := rfl; omega)
    show Nx D (fi D W.toNat (r + (i : Nat))) (fi D W.toNat (r + ((i + 1 : Nat) : Int)))
    rw [show r + ((i + 1 : Nat) : Int) = r + i + 1 by omega]
    exact this
theorem rpart_ord {W D r : Int} (h : LK W D) (h0 : 0 ≤ r) (hr : r < cnt W D) {n : Nat} (hn : n ≤ 60) (h1 : (n : Int) ≤ cnt W D) : ordB W D (rpart W D r n) = true := by
  have cb := cnt_bd h
  have hD := LK.d h
  have hD0 : 0 < D := by omega
  have hw := LK.w h
  have rk : ∀ i : Nat, Rk W D ((r + i) % cnt W D) := fun i => ⟨h, Int.emod_nonneg _ (by omega), Int.emod_lt_of_pos _ (by omega)⟩
  refine ordB_of h (n := n) (by omega) (fun i : Nat => df D 0 (cod D W.toNat ((r + i) % cnt W D))) (fun i hi => rd_fine h _) ?_ ?_
  · intro i j hij hj e
    have q1 := (back_rank (rk i)).1
    have q2 := (back_rank (rk j)).1
    have e' : rd_ W D ((r + i) % cnt W D) = rd_ W D ((r + j) % cnt W D) := e
    rw [e', q2, mod2 (a := r + j) (by omega) (by omega), mod2 (a := r + i) (by omega) (by omega)] at q1
    split at q1 <;> split at q1 <;> omega
  · intro i hi
    have := N1.nx (by omega) (df_isD hD0 _ _) (round_next (show 1 < D by omega) W.toNat 0 ((r + i) % cnt W D) hw.2.2 (rk i).2.1 (rk i).2.2)
    show Nx D (df D 0 (cod D W.toNat ((r + (i : Nat)) % cnt W D))) (df D 0 (cod D W.toNat ((r + ((i + 1 : Nat) : Int)) % cnt W D)))
    have em : ((r + i) % cnt W D + 1) % cnt W D = (r + ((i + 1 : Nat) : Int)) % cnt W D := by
      rw [Int.emod_add_emod]; congr 1; omega
    rw [← em]
    exact this
end Go.Proofs.Ytijbngmlaggclaa.OP
namespace Go.Proofs.Ytijbngmlaggclaa.DR
open Go.RowKit Go.Proofs.Ytijbngmlaggclaa.P Go.Proofs.Ytijbngmlaggclaa.B Go.Proofs.Ytijbngmlaggclaa.C Go.Proofs.Ytijbngmlaggclaa.L Go.Proofs.Ytijbngmlaggclaa.A Go.Proofs.YtijbngmlaggclaaW.PrintWords Go.Proofs.YtijbngmlaggclaaW.PrintLast Go.Proofs.YtijbngmlaggclaaW.PrintMore
set_option linter.unusedVariables false
set_option linter.unusedSimpArgs false
def Ok (l : List Int) : Prop := (∀ x ∈ l, 0 ≤ x ∧ x ≤ 255) ∧ l.length ≤ 140737488351232
abbrev Rg (x : Int) : Prop := -9223372036854775808 ≤ x ∧ x ≤ 9223372036854775807
theorem Ok.of_wf {l : List Int} (h : ∀ x ∈ l, (Lit.int .u8 x).wf = true) (hl : l.length * 1 ≤ 140737488351232) : Ok l := by
  refine ⟨fun x hx => ?_, by omega⟩
  have := h x hx
  have e1 : IntKind.u8.min = 0 := by decide
  have e2 : IntKind.u8.max = 255 := by decide
  simp [Lit.wf] at this
  omega
theorem u64_bd (n : Int) : 0 ≤ IntKind.u64.wrap n ∧ IntKind.u64.wrap n < 18446744073709551616 := by
  simp only [IntKind.wrap, IntKind.bits, IntKind.signed]; simp; omega
theorem u64_id (n : Int) (h0 : 0 ≤ n) (h1 : n < 2 ^ 64) : IntKind.u64.wrap n = n := by
  simp only [IntKind.wrap, IntKind.bits, IntKind.signed]; simp; omega
theorem low (n : Int) : 0 ≤ bits .and .u64 (IntKind.u64.wrap n / 1099511627776) 255 ∧ bits .and .u64 (IntKind.u64.wrap n / 1099511627776) 255 ≤ 255 := by
  have h := u64_bd n
  have e : bits .and .u64 (IntKind.u64.wrap n / 1099511627776) 255 = (IntKind.u64.wrap n / 1099511627776) % 256 := bits_mask .u64 64 (by decide) u64_id 8 (by decide) _ (by omega) (by omega)
  rw [e]; omega
theorem next_ok {l : List Int} (hl : Ok l) {at_ : Int} (sd : Int) (h0 : 0 ≤ at_) (h1 : at_ ≤ 1000000000000000000) : ∃ v sd', spec_l1Cur_next.f l at_ sd = some (v, at_ + 1, sd') ∧ 0 ≤ v ∧ v ≤ 255 := by
  unfold spec_l1Cur_next.f
  rw [w64 (x := at_ + 1) (by omega) (by omega)]
  by_cases c : at_ < (l.length : Int)
  · obtain ⟨j, rfl⟩ : ∃ j : Nat, at_ = j := ⟨at_.toNat, by omega⟩
    have b := hl.1 _ (List.getElem_mem (show j < l.length by omega))
    simp only [if_pos c, if_pos h0, if_pos (show (j : Int) + 1 ≤ (l.length : Int) by omega), rd_get l j (by omega), w64 (x := l[j]'(by omega)) (by omega) (by omega)]
    exact ⟨_, _, rfl, b⟩
  · simp only [if_neg c, if_neg (show ¬ at_ + 1 ≤ (l.length : Int) by omega)]
    have b := low (IntKind.u64.wrap (IntKind.u64.wrap (sd * 6364136223846793005)) + 1442695040888963407)
    refine ⟨_, _, rfl, ?_⟩
    rw [w64 (by omega) (by omega)]
    exact b
theorem tm_bd {a n : Int} (h0 : 0 ≤ a) (hn : 0 < n) : 0 ≤ Int.tmod a n ∧ Int.tmod a n < n ∧ Int.tmod a n ≤ a := by
  rw [Int.tmod_eq_emod_of_nonneg h0]
  refine ⟨Int.emod_nonneg _ (by omega), Int.emod_lt_of_pos _ hn, ?_⟩
  by_cases h : a < n
  · rw [Int.emod_eq_of_lt h0 h]; omega
  · have := Int.emod_lt_of_pos a hn; omega
theorem pick_ok {l : List Int} (hl : Ok l) {at_ : Int} (sd n : Int) (h0 : 0 ≤ at_) (h1 : at_ ≤ 100000000000000000) : ∃ v at' sd', spec_l1Cur_pick.f l at_ sd n = some (v, at', sd') ∧ (at_ ≤ at' ∧ at' ≤ at_ + 2) ∧ 0 ≤ v ∧ (1 ≤ n → v < n) ∧ v ≤ 65535 := by
  unfold spec_l1Cur_pick.f
  by_cases c : n ≤ 1
  · simp only [if_pos c]
    exact ⟨_, _, _, rfl, by omega, by omega, fun _ => by omega, by omega⟩
  · simp only [if_neg c]
    obtain ⟨v, s1, e1, b0, b1⟩ := next_ok hl sd h0 (by omega)
    rw [e1]
    simp only [Option.bind_some, if_neg (show ¬ n = 0 by omega)]
    by_cases d : n > 200
    · simp only [if_pos d]
      obtain ⟨u, s2, e2, c0, c1⟩ := next_ok hl s1 (show 0 ≤ at_ + 1 by omega) (by omega)
      rw [e2]
      simp only [Option.bind_some, w64 (x := v * 256) (by omega) (by omega), w64 (x := v * 256 + u) (by omega) (by omega)]
      have q := tm_bd (a := v * 256 + u) (n := n) (by omega) (by omega)
      exact ⟨_, _, _, rfl, by omega, q.1, fun _ => q.2.1, by omega⟩
    · simp only [if_neg d]
      have q := tm_bd (a := v) (n := n) (by omega) (by omega)
      exact ⟨_, _, _, rfl, by omega, q.1, fun _ => q.2.1, by omega⟩
theorem one_ok {l : List Int} (hl : Ok l) {at_ : Int} (sd n : Int) (h0 : 0 ≤ at_) (h1 : at_ ≤ 100000000000000000) : ∃ (b : Bool) (at' sd' : Int), spec_l1Cur_one.f l at_ sd n = some (b, at', sd') ∧ (at_ ≤ at' ∧ at' ≤ at_ + 2) := by
  obtain ⟨v, a, s, e, h, _⟩ := pick_ok hl sd n h0 h1
  unfold spec_l1Cur_one.f
  rw [e]
  exact ⟨_, _, _, rfl, h⟩
theorem among_ok {l : List Int} (hl : Ok l) {at_ : Int} (sd : Int) (L : List Int) (hL : 0 < L.length) (hb : ∀ x ∈ L, Rg x) (h0 : 0 ≤ at_) (h1 : at_ ≤ 100000000000000000) : ∃ v at' sd', spec_l1Cur_among.f l at_ sd L = some (v, at', sd') ∧ (at_ ≤ at' ∧ at' ≤ at_ + 2) ∧ Rg v := by
  obtain ⟨v, a, s, e, h, p0, p1, _⟩ := pick_ok hl sd (L.length : Int) h0 h1
  unfold spec_l1Cur_among.f
  rw [e]
  have p1 := p1 (by omega)
  simp only [Option.bind_some, if_pos p0, if_pos p1]
  obtain ⟨j, rfl⟩ : ∃ j : Nat, v = j := ⟨v.toNat, by omega⟩
  refine ⟨_, _, _, rfl, h, ?_⟩
  rw [rd_get L j (by omega)]
  exact hb _ (List.getElem_mem _)
theorem of_ok {l : List Int} (hl : Ok l) {at_ : Int} (sd : Int) (L : List ByteArray) (hL : 0 < L.length) (hb : ∀ x ∈ L, x.size ≤ 1000) (h0 : 0 ≤ at_) (h1 : at_ ≤ 100000000000000000) : ∃ v at' sd', spec_l1Cur_of.f l at_ sd L = some (v, at', sd') ∧ (at_ ≤ at' ∧ at' ≤ at_ + 2) ∧ v.size ≤ 1000 := by
  obtain ⟨v, a, s, e, h, p0, p1, _⟩ := pick_ok hl sd (L.length : Int) h0 h1
  unfold spec_l1Cur_of.f
  rw [e]
  have p1 := p1 (by omega)
  simp only [Option.bind_some, if_pos p0, if_pos p1]
  obtain ⟨j, rfl⟩ : ∃ j : Nat, v = j := ⟨v.toNat, by omega⟩
  refine ⟨_, _, _, rfl, h, ?_⟩
  have e : rdOf ByteArray.empty L (j : Int) = L[j]'(by omega) := by
    unfold rdOf
    rw [Int.toNat_natCast, List.getD_eq_getElem?_getD, List.getElem?_eq_getElem (by omega)]; rfl
  rw [e]
  exact hb _ (List.getElem_mem _)
theorem sure_ok {l : List Int} (hl : Ok l) {at_ : Int} (sd : Int) (h0 : 0 ≤ at_) (h1 : at_ ≤ 100000000000000000) : ∃ W D at' sd', spec_l1Cur_sureLock.f l at_ sd = some (W, D, at', sd') ∧ (at_ ≤ at' ∧ at' ≤ at_ + 2) ∧ Rg W ∧ Rg D := by
  obtain ⟨v, a, s, e, h, p0, p1, _⟩ := pick_ok hl sd 8 h0 h1
  unfold spec_l1Cur_sureLock.f
  rw [e]
  have p1 := p1 (by omega)
  simp only [Option.bind_some, if_pos (And.intro p0 p1)]
  refine ⟨_, _, _, _, rfl, h, ?_, ?_⟩
  · have : v = 0 ∨ v = 1 ∨ v = 2 ∨ v = 3 ∨ v = 4 ∨ v = 5 ∨ v = 6 ∨ v = 7 := by omega
    rcases this with rfl | rfl | rfl | rfl | rfl | rfl | rfl | rfl <;> decide
  · have : v = 0 ∨ v = 1 ∨ v = 2 ∨ v = 3 ∨ v = 4 ∨ v = 5 ∨ v = 6 ∨ v = 7 := by omega
    rcases this with rfl | rfl | rfl | rfl | rfl | rfl | rfl | rfl <;> decide
theorem rgs {L : List Int} (h : (L.all fun x => decide (Rg x)) = true) : ∀ x ∈ L, Rg x := by
  intro x hx
  rw [List.all_eq_true] at h
  exact of_decide_eq_true (h x hx)
theorem lock_ok {l : List Int} (hl : Ok l) {at_ : Int} (sd : Int) (h0 : 0 ≤ at_) (h1 : at_ ≤ 10000000000000000) : ∃ W D at' sd', spec_l1Cur_lock.f l at_ sd = some (W, D, at', sd') ∧ (at_ ≤ at' ∧ at' ≤ at_ + 6) ∧ Rg W ∧ Rg D := by
  obtain ⟨b, a1, s1, e1, r1⟩ := one_ok hl sd 14 h0 (by omega)
  unfold spec_l1Cur_lock.f
  rw [e1]
  cases b with
  | true =>
    simp only [Option.bind_some, if_true]
    obtain ⟨v, a2, s2, e2, r2, q2⟩ := among_ok hl s1 [0, (-1), 1, 6, 7, 4611686018427387904] (by simp) (rgs (by decide)) (show 0 ≤ a1 by omega) (by omega)
    obtain ⟨u, a3, s3, e3, r3, q3⟩ := among_ok hl s2 [1, 2, 3, 10, 11, (-1)] (by simp) (rgs (by decide)) (show 0 ≤ a2 by omega) (by omega)
    rw [e2]
    simp only [Option.bind_some]
    rw [e3]
    exact ⟨_, _, a3, s3, rfl, by omega, q2, q3⟩
  | false =>
    simp only [Option.bind_some, Bool.false_eq_true, if_false]
    obtain ⟨W, D, a2, s2, e2, r2, q2, q3⟩ := sure_ok hl s1 (show 0 ≤ a1 by omega) (by omega)
    rw [e2]
    exact ⟨_, _, a2, s2, rfl, by omega, q2, q3⟩
theorem ranked_ok {l : List Int} (hl : Ok l) {at_ : Int} (sd : Int) (h0 : 0 ≤ at_) (h1 : at_ ≤ 1000000000000000) : ∃ W D r at' sd', Ev (fun k => spec_l1Cur_ranked.f k l at_ sd) (W, D, r, at', sd') ∧ (at_ ≤ at' ∧ at' ≤ at_ + 20) ∧ Rg W ∧ Rg D ∧ Rg r := by
  obtain ⟨W, D, a1, s1, e1, r1, q1, q2⟩ := lock_ok hl sd h0 (by omega)
  obtain ⟨b, a2, s2, e2, r2⟩ := one_ok hl s1 8 (show 0 ≤ a1 by omega) (by omega)
  unfold spec_l1Cur_ranked.f
  rw [e1]
  simp only [Option.bind_some]
  rw [e2]
  simp only [Option.bind_some]
  cases b with
  | true =>
    simp only [if_true]
    obtain ⟨v, a3, s3, e3, r3, q3⟩ := among_ok hl s2 [(-1), 0, 9, 99, 4611686018427387904] (by simp) (rgs (by decide)) (show 0 ≤ a2 by omega) (by omega)
    rw [e3]
    exact ⟨_, _, _, a3, s3, Ev.now _, by omega, q1, q2, q3⟩
  | false =>
    simp only [Bool.false_eq_true, if_false, whGood_eq, Option.bind_some]
    by_cases g : LK W D
    · simp only [decide_eq_true g, if_true]
      obtain ⟨v, a3, s3, e3, r3, q3, _, q5⟩ := pick_ok hl s2 (if 100 < cnt W D then 100 else cnt W D) (show 0 ≤ a2 by omega) (by omega)
      have el : spec_l1Least.f 100 (cnt W D) = some (if 100 < cnt W D then 100 else cnt W D) := by unfold spec_l1Least.f; split <;> rfl
      refine ⟨W, D, v, a3, s3, Ev.bind (whCount_ev g) ?_, by omega, q1, q2, ⟨by omega, by omega⟩⟩
      rw [el]
      simp only [Option.bind_some]
      rw [e3]
      exact Ev.now _
    · simp only [decide_eq_false g, Bool.false_eq_true, if_false]
      exact ⟨_, _, _, a2, s2, Ev.now _, by omega, q1, q2, ⟨by omega, by omega⟩⟩
theorem code_loop {l : List Int} (hl : Ok l) (W D : Int) : ∀ (m i : Nat) (out : ByteArray) (at_ sd : Int), 7 - i = m → i ≤ 7 → out.size ≤ i → 0 ≤ at_ → at_ + 2 * (m : Int) ≤ 10000000000000000 → ∃ v at' sd', Ev (fun k => spec_l1Cur_code1.l0 k out (i : Int) l at_ sd W D) (v, at', sd') ∧ (at_ ≤ at' ∧ at' ≤ at_ + 2 * (m : Int)) ∧ v.size ≤ 1000 := by
  intro m
  induction m with
  | zero =>
    intro i out at_ sd hm hi ho h0 h1
    obtain rfl : i = 7 := by omega
    refine ⟨out, at_, sd, Ev.succ ?_, by omega, by omega⟩
    by_cases c : ((7 : Nat) : Int) < W
    · simp only [spec_l1Cur_code1.l0, if_pos c, decide_eq_false (show ¬ ((7 : Nat) : Int) < 7 by omega)]
      refine Ev.succ ?_
      simp only [spec_l1Cur_code1.j1, Bool.false_eq_true, if_false]
      exact Ev.now _
    · simp only [spec_l1Cur_code1.l0, if_neg c]
      refine Ev.succ ?_
      simp only [spec_l1Cur_code1.j1, Bool.false_eq_true, if_false]
      exact Ev.now _
  | succ m ih =>
    intro i out at_ sd hm hi ho h0 h1
    by_cases c : (i : Int) < W
    rotate_left
    · refine ⟨out, at_, sd, Ev.succ ?_, by omega, by omega⟩
      simp only [spec_l1Cur_code1.l0, if_neg c]
      refine Ev.succ ?_
      simp only [spec_l1Cur_code1.j1, Bool.false_eq_true, if_false]
      exact Ev.now _
    have em : spec_l1Most.f 1 D = some (if 1 > D then 1 else D) := by unfold spec_l1Most.f; split <;> rfl
    have el : ∀ x, spec_l1Least.f 10 x = some (if 10 < x then 10 else x) := by intro x; unfold spec_l1Least.f; split <;> rfl
    obtain ⟨q, hq, q0, q1⟩ : ∃ q : Int, q = (if 10 < (if 1 > D then 1 else D) then 10 else (if 1 > D then 1 else D)) ∧ 1 ≤ q ∧ q ≤ 10 := ⟨_, rfl, by split <;> split <;> omega, by split <;> split <;> omega⟩
    obtain ⟨v, a1, s1, e1, r1, p0, p1, _⟩ := pick_ok hl sd q h0 (by omega)
    have p1 := p1 q0
    have hn := l1Num_ev (n := v) ⟨p0, by omega⟩
    have hs : (out ++ txt [v]).size ≤ i + 1 := by rw [ByteArray.size_append, txt_size]; simp; omega
    obtain ⟨u, a2, s2, e2, r2, r3⟩ := ih (i + 1) (out ++ txt [v]) a1 s1 (by omega) (by omega) hs (by omega) (by omega)
    refine ⟨u, a2, s2, Ev.succ ?_, by omega, r3⟩
    simp only [spec_l1Cur_code1.l0, if_pos c, decide_eq_true (show (i : Int) < 7 by omega)]
    refine Ev.succ ?_
    simp only [spec_l1Cur_code1.j1, if_true, em, el, Option.bind_some]
    rw [← hq, e1]
    simp only [Option.bind_some]
    refine Ev.bind hn ?_
    simp only [if_pos (show out.size + (txt [v]).size ≤ 9223372036854775807 by rw [txt_size]; simp; omega), w64 (x := (i : Int) + 1) (by omega) (by omega)]
    exact e2
theorem code1_ok {l : List Int} (hl : Ok l) {at_ : Int} (sd W D : Int) (h0 : 0 ≤ at_) (h1 : at_ ≤ 1000000000000000) : ∃ v at' sd', Ev (fun k => spec_l1Cur_code1.f k l at_ sd W D) (v, at', sd') ∧ (at_ ≤ at' ∧ at' ≤ at_ + 20) ∧ v.size ≤ 1000 := by
  obtain ⟨b, a1, s1, e1, r1⟩ := one_ok hl sd 14 h0 (by omega)
  unfold spec_l1Cur_code1.f
  rw [e1]
  simp only [Option.bind_some]
  cases b with
  | true =>
    simp only [if_true]
    obtain ⟨v, a2, s2, e2, r2, r3⟩ := of_ok hl s1 [(⟨#[]⟩ : ByteArray), (⟨#[120]⟩ : ByteArray), (⟨#[48]⟩ : ByteArray), (⟨#[57, 57]⟩ : ByteArray), (⟨#[48, 48, 48, 48, 48, 48, 48]⟩ : ByteArray), (⟨#[49, 97]⟩ : ByteArray)] (by simp) (by intro x hx; simp only [List.mem_cons, List.not_mem_nil, or_false] at hx; rcases hx with rfl | rfl | rfl | rfl | rfl | rfl <;> decide) (show 0 ≤ a1 by omega) (by omega)
    rw [e2]
    exact ⟨_, a2, s2, Ev.now _, by omega, r3⟩
  | false =>
    simp only [Bool.false_eq_true, if_false]
    obtain ⟨v, a2, s2, e2, r2, r3⟩ := code_loop hl W D 7 0 (⟨#[]⟩ : ByteArray) a1 s1 rfl (by omega) (by decide) (by omega) (by omega)
    exact ⟨v, a2, s2, e2, by omega, r3⟩
theorem drawForthCode {l : List Int} (hl : Ok l) : ∃ W D r, Ev (fun k => spec_DrawForthCode.f k l) (W, D, r) ∧ Rg W ∧ Rg D ∧ Rg r := by
  obtain ⟨W, D, r, a, s, e, _, q1, q2, q3⟩ := ranked_ok hl 0 (show (0 : Int) ≤ 0 by omega) (by omega)
  unfold spec_DrawForthCode.f spec_newCur.f
  simp only [Option.bind_some]
  exact ⟨W, D, r, Ev.bind e (Ev.now _), q1, q2, q3⟩
theorem drawRoundCode {l : List Int} (hl : Ok l) : ∃ W D r, Ev (fun k => spec_DrawRoundCode.f k l) (W, D, r) ∧ Rg W ∧ Rg D ∧ Rg r := by
  obtain ⟨W, D, r, e, q1, q2, q3⟩ := drawForthCode hl
  unfold spec_DrawRoundCode.f
  exact ⟨W, D, r, Ev.bind e (Ev.now _), q1, q2, q3⟩
theorem drawIsCode {l : List Int} (hl : Ok l) : ∃ W D s, Ev (fun k => spec_DrawIsCode.f k l) (W, D, s) ∧ Rg W ∧ Rg D ∧ s.size ≤ 1000 := by
  obtain ⟨W, D, a, s, e, r, q1, q2⟩ := lock_ok hl 0 (show (0 : Int) ≤ 0 by omega) (by omega)
  obtain ⟨v, a2, s2, e2, r2, r3⟩ := code1_ok hl s W D (show 0 ≤ a by omega) (by omega)
  unfold spec_DrawIsCode.f spec_newCur.f
  simp only [Option.bind_some]
  rw [e]
  simp only [Option.bind_some]
  exact ⟨W, D, v, Ev.bind e2 (Ev.now _), q1, q2, r3⟩
theorem drawForthRank {l : List Int} (hl : Ok l) : ∃ W D s, Ev (fun k => spec_DrawForthRank.f k l) (W, D, s) ∧ Rg W ∧ Rg D ∧ s.size ≤ 1000 := by
  obtain ⟨W, D, s, e, q⟩ := drawIsCode hl
  unfold spec_DrawForthRank.f
  exact ⟨W, D, s, Ev.bind e (Ev.now _), q⟩
theorem drawForthPart {l : List Int} (hl : Ok l) : ∃ W D r n, Ev (fun k => spec_DrawForthPart.f k l) (W, D, r, n) ∧ Rg W ∧ Rg D ∧ Rg r ∧ Rg n := by
  obtain ⟨W, D, r, a, s, e, b, q1, q2, q3⟩ := ranked_ok hl 0 (show (0 : Int) ≤ 0 by omega) (by omega)
  obtain ⟨v, a3, s3, e3, r3, q4⟩ := among_ok hl s [0, 1, 3, 5, 9, 60, 61, (-1)] (by simp) (rgs (by decide)) (show 0 ≤ a by omega) (by omega)
  unfold spec_DrawForthPart.f spec_newCur.f
  simp only [Option.bind_some]
  refine ⟨W, D, r, v, Ev.bind e ?_, q1, q2, q3, q4⟩
  rw [e3]
  exact Ev.now _
theorem drawIsLock {l : List Int} (hl : Ok l) : ∃ W D, spec_DrawIsLock.f l = some (W, D) ∧ Rg W ∧ Rg D := by
  obtain ⟨W, D, a, s, e, r, q1, q2⟩ := lock_ok hl 0 (show (0 : Int) ≤ 0 by omega) (by omega)
  unfold spec_DrawIsLock.f spec_newCur.f
  simp only [Option.bind_some]
  rw [e]
  exact ⟨W, D, rfl, q1, q2⟩
theorem drawWheelTurns {l : List Int} (hl : Ok l) : ∃ W D, spec_DrawWheelTurns.f l = some (W, D) ∧ Rg W ∧ Rg D := by
  obtain ⟨W, D, e, q1, q2⟩ := drawIsLock hl
  unfold spec_DrawWheelTurns.f
  rw [e]
  exact ⟨W, D, rfl, q1, q2⟩
end Go.Proofs.Ytijbngmlaggclaa.DR
namespace Go.Proofs.Ytijbngmlaggclaa.Pure
open Go.RowKit Go.Proofs.Ytijbngmlaggclaa.P Go.Proofs.Ytijbngmlaggclaa.B Go.Proofs.Ytijbngmlaggclaa.C Go.Proofs.Ytijbngmlaggclaa.L Go.Proofs.Ytijbngmlaggclaa.A Go.Proofs.Ytijbngmlaggclaa.O Go.Proofs.Ytijbngmlaggclaa.O2 Go.Proofs.Ytijbngmlaggclaa.O3 Go.Proofs.Ytijbngmlaggclaa.OF Go.Proofs.Ytijbngmlaggclaa.OT Go.Proofs.Ytijbngmlaggclaa.OP Go.Proofs.Ytijbngmlaggclaa.DR Go.Proofs.Ytijbngmlaggclaa.R Go.Proofs.Ytijbngmlaggclaa.D1 Go.Proofs.Ytijbngmlaggclaa.D2 Go.Proofs.Ytijbngmlaggclaa.D4 Go.Proofs.YtijbngmlaggclaaW.PrintWords Go.Proofs.YtijbngmlaggclaaW.PrintLast Go.Proofs.YtijbngmlaggclaaW.PrintMore
set_option linter.unusedVariables false
set_option linter.unusedSimpArgs false
theorem od_l0 {W D : Int} (h : LK W D) {l : List Int} (hs : l.foldl (fun s x => wrap64 (s + x)) 0 = cnt W D) (hl : (l.length : Int) = W) (h0 : rd l 0 = D) : Ev (fun k => laws_FnOrdersTurn.l0 k l (cnt W D) true 0 l (l.length : Int) 0 W D) true := by
  have hw := LK.w h
  refine ev_loop (g := fun j k => laws_FnOrdersTurn.l0 k l (cnt W D) true ((l.take j).foldl (fun s x => wrap64 (s + x)) 0) l (l.length : Int) (j : Int) W D) l.length ?_ ?_
  · intro j hj ih
    refine Ev.succ ?_
    simp only [laws_FnOrdersTurn.l0, if_pos (show (j : Int) < (l.length : Int) by omega), if_pos (show (0 : Int) ≤ (j : Int) by omega), rd_get l j hj, w64 (x := (j : Int) + 1) (by omega) (by omega)]
    rw [List.take_succ_eq_append_getElem hj, List.foldl_append] at ih
    exact ih
  · refine Ev.succ ?_
    rw [List.take_of_length_le (Nat.le_refl _), hs]
    simp only [laws_FnOrdersTurn.l0, hl, if_neg (show ¬ W < W by omega), if_true, if_pos (show 0 < W by omega), h0, beq_self_eq_true]
    exact Ev.now _
theorem od_j6 {W D : Int} (l : List Int) (b : Bool) (hb : (b = true ∧ LK W D ∧ l.foldl (fun s x => wrap64 (s + x)) 0 = cnt W D ∧ (l.length : Int) = W ∧ rd l 0 = D) ∨ b = false) : Ev (fun k => laws_FnOrdersTurn.j6 k l b W D) true := by
  refine Ev.succ ?_
  rcases hb with ⟨rfl, h, hs, hl, h0⟩ | rfl
  · simp only [laws_FnOrdersTurn.j6, if_true]
    exact Ev.bind (countAll_ev h) (od_l0 h hs hl h0)
  · simp only [laws_FnOrdersTurn.j6, Bool.false_eq_true, if_false]
    exact Ev.now _
theorem FnOrdersTurn : laws_FnOrdersTurn.Pure := by
  intro l0 l1 _ hz0 hw0 _ hz1 hw1
  have ok0 := Ok.of_wf hw0 hz0
  have ok1 := Ok.of_wf hw1 hz1
  obtain ⟨W, D, r, g1, _, _, hr⟩ := drawRoundCode ok0
  obtain ⟨KW, KD, s, g2, _, _, hs1⟩ := drawForthRank ok1
  obtain ⟨MW, MD, at_, n, g3, _, _, hat, _⟩ := drawForthPart ok1
  obtain ⟨NW, ND, e4, _, _⟩ := drawWheelTurns ok1
  have g4 : Ev (fun _ => spec_DrawWheelTurns.f l1) (NW, ND) := by rw [e4]; exact Ev.now _
  have hs : s.size ≤ 140737488351232 := by omega
  refine ev_ex ?_
  -- the wheels' turns
  obtain ⟨wl, wb, w1, w2, hw, hwl⟩ : ∃ (wl : List Int) (wb : Bool), Ev (fun k => spec_WheelTurns.f k NW ND) (wl, wb) ∧ Ev (fun k => impl_WheelTurns.f k NW ND) (wl, wb) ∧ ((wb = true ∧ LK NW ND ∧ wl.foldl (fun s x => wrap64 (s + x)) 0 = cnt NW ND ∧ (wl.length : Int) = NW ∧ rd wl 0 = ND) ∨ wb = false) ∧ wl.length ≤ 100 := by
    by_cases h : LK NW ND
    · obtain ⟨l, q1, q2, q3, q4, q5⟩ := wt_ok h
      have := LK.w h
      exact ⟨l, true, q1, q2, .inl ⟨rfl, h, q3, q4, q5⟩, by omega⟩
    · exact ⟨[], false, (wt_no h).1, (wt_no h).2, .inr rfl, by simp⟩
  have J6 := od_j6 (W := NW) (D := ND) wl wb hw
  -- the parts
  obtain ⟨fl, fb_, hfl, hfp, f1, f2⟩ := fboth MW MD at_ n hat
  obtain ⟨rl, rb, hrl, hrp, r1, r2⟩ := rboth MW MD at_ n hat
  have J5 : Ev (fun k => laws_FnOrdersTurn.j5 k n rl rb wl wb MW MD NW ND) true := by
    refine Ev.succ ?_
    rcases hrp with ⟨rfl, ⟨⟨h, h0, h1⟩, hn⟩, rfl⟩ | ⟨rfl, _, _⟩
    · have cb := cnt_bd h
      simp only [laws_FnOrdersTurn.j5, if_true]
      have len : (rpart MW MD at_ n.toNat).length = n.toNat := by simp [rpart]
      have hsz : ∀ s ∈ rpart MW MD at_ n.toNat, s.size ≤ 140737488351232 := sizes_of h (fun i : Nat => df MD 0 (cod MD MW.toNat ((at_ + i) % cnt MW MD))) (fun i => (rd_fine h _).1) _
      refine Ev.bind (countAll_ev h) (Ev.bind (isTurn_ev h _ (by omega) hsz) ?_)
      simp only [if_pos (show ((rpart MW MD at_ n.toNat).length : Int) = n by rw [len]; omega), if_true]
      by_cases hc : n ≤ cnt MW MD
      · rw [rpart_ord h h0 h1 (n := n.toNat) (by omega) (by omega)]
        simp only [if_pos hc, if_true]
        exact J6
      · simp only [if_neg hc]
        exact J6
    · simp only [laws_FnOrdersTurn.j5, Bool.false_eq_true, if_false]
      exact J6
  have J4 : Ev (fun k => laws_FnOrdersTurn.j4 k n fl fb_ rl rb wl wb MW MD NW ND) true := by
    refine Ev.succ ?_
    rcases hfp with ⟨rfl, ⟨⟨h, h0, h1⟩, hn, hc⟩, rfl⟩ | ⟨rfl, _, _⟩
    · have cb := cnt_bd h
      simp only [laws_FnOrdersTurn.j4, if_true]
      have len : (fpart MW MD at_ n.toNat).length = n.toNat := by simp [fpart]
      have hsz : ∀ s ∈ fpart MW MD at_ n.toNat, s.size ≤ 140737488351232 := sizes_of h (fun i : Nat => fi MD MW.toNat (at_ + i)) (fun i => fi_len ..) _
      refine Ev.bind (isTurn_ev h _ (by omega) hsz) ?_
      rw [fpart_ord h h0 (n := n.toNat) (by omega) (by omega)]
      simp only [if_pos (show ((fpart MW MD at_ n.toNat).length : Int) = n by rw [len]; omega), if_true]
      exact J5
    · simp only [laws_FnOrdersTurn.j4, Bool.false_eq_true, if_false]
      exact J5
  -- the ranks of a code
  obtain ⟨⟨fv, fo⟩, c1, c2, ce⟩ := bothForthRank KW KD s hs
  obtain ⟨⟨rv, ro⟩, d1, d2, de⟩ := bothRoundRank KW KD s hs
  have eo : ro = fo := by
    by_cases q : LK KW KD ∧ isC KW KD s = true
    · rw [if_pos q] at ce de
      rw [(Prod.mk.inj ce).2, (Prod.mk.inj de).2]
    · rw [if_neg q] at ce de
      rw [(Prod.mk.inj ce).2, (Prod.mk.inj de).2]
  have J3 : Ev (fun k => laws_FnOrdersTurn.j3 k s fv fo rv n fl fb_ rl rb wl wb false KW KD MW MD NW ND) true := by
    refine Ev.succ ?_
    simp only [laws_FnOrdersTurn.j3, Bool.false_eq_true, if_false]
    by_cases q : LK KW KD ∧ isC KW KD s = true
    · rw [if_pos q] at ce de
      obtain ⟨rfl, rfl⟩ := Prod.mk.inj ce
      obtain ⟨rfl, _⟩ := Prod.mk.inj de
      obtain ⟨k1, k2, e1, e2⟩ := back_code q.1 q.2
      have g1 := (fc_ok k2).2
      have g2 := (rc_ok k1).2
      rw [e2] at g1
      rw [e1] at g2
      simp only [if_true]
      refine Ev.bind g1 (Ev.bind g2 ?_)
      simp only [if_true]
      exact J4
    · rw [if_neg q] at ce
      obtain ⟨rfl, rfl⟩ := Prod.mk.inj ce
      simp only [Bool.false_eq_true, if_false]
      exact J4
  have hrf : fb_ = true → rb = true := by
    intro q
    rcases hfp with ⟨_, ⟨h, hn, _⟩, _⟩ | ⟨e, _⟩
    · rcases hrp with ⟨e, _⟩ | ⟨_, _, g⟩
      · exact e
      · exact absurd ⟨h, hn⟩ g
    · rw [e] at q; exact absurd q (by simp)
  have J2 : Ev (fun k => laws_FnOrdersTurn.j2 k l1) true := by
    refine Ev.succ ?_
    simp only [laws_FnOrdersTurn.j2]
    subst eo
    refine Ev.bind g2 (Ev.bind c2 (Ev.bind c1 (Ev.bind d2 (Ev.bind d1 (Ev.bind g3 (Ev.bind f2 (Ev.bind f1 (Ev.bind r2 (Ev.bind r1 (Ev.bind g4 (Ev.bind w2 (Ev.bind w1 ?_))))))))))))
    simp only [bne_self_eq_false, Bool.false_eq_true, if_false, if_true]
    refine Ev.bind (aTexts_ev fl (by omega)) ?_
    simp only [if_true]
    refine Ev.bind (aTexts_ev rl (by omega)) ?_
    simp only [if_true]
    cases fb_ with
    | true =>
      simp only [hrf rfl, if_true]
      rw [hrf rfl] at J3
      refine Ev.bind (aSame_ev wl (by omega)) ?_
      simp only [Bool.not_true]
      exact J3
    | false =>
      simp only [Bool.false_eq_true, if_false]
      refine Ev.bind (aSame_ev wl (by omega)) ?_
      simp only [Bool.not_true]
      exact J3
  -- the law
  unfold laws_FnOrdersTurn.f
  obtain ⟨big, hbig⟩ : ∃ b, laws_big.f l0 l1 = some b := by unfold laws_big.f; split <;> exact ⟨_, rfl⟩
  simp only [hbig, Option.bind_some]
  cases big with
  | true => simp only [if_true]; exact Ev.now _
  | false =>
  simp only [Bool.false_eq_true, if_false]
  refine Ev.bind g1 ?_
  by_cases v : Rk W D r
  · have cb := cnt_bd v.1
    have hw := LK.w v.1
    obtain ⟨i, hi, t1, t2, t3⟩ := tr_ok v
    have em : Int.tmod (wrap64 (r + 1)) (cnt W D) = (r + 1) % cnt W D := by
      rw [w64 (by have := v.2; omega) (by have := v.2; omega)]
      exact Int.tmod_eq_emod_of_nonneg (by have := v.2.1; omega)
    have hb := back_rank v
    have isr : isC W D (txt (rd_ W D r)) = true := txt_isC v.1 (rd_fine v.1 r).2 (rd_fine v.1 r).1
    have isf : isC W D (txt (fd_ W D r)) = true := txt_isC v.1 (fd_fine v).2 (fd_fine v).1
    obtain ⟨qr, _, m2, me⟩ := bothRoundRank W D (txt (rd_ W D r)) (by rw [txt_size, (rd_fine v.1 r).1]; omega)
    obtain ⟨qf, _, n2, ne⟩ := bothForthRank W D (txt (fd_ W D r)) (by rw [txt_size, (fd_fine v).1]; omega)
    rw [if_pos ⟨v.1, isr⟩, hb.1] at me
    rw [if_pos ⟨v.1, isf⟩, hb.2] at ne
    subst me
    subst ne
    have tw := turnWheel_ev v.1 (rd_fine v.1 r).2 (rd_fine v.1 r).1 hi (.inl rfl : (1 : Int) = 1 ∨ (1 : Int) = -1)
    rw [t3] at tw
    have nr := (rc_ok (nx_mod v)).2
    by_cases hl : r + 1 < cnt W D
    · obtain ⟨i2, e2, hi2, he2, u1, u2, u3⟩ := tf_ok v hl
      have vn : Rk W D (r + 1) := ⟨v.1, by have := v.2.1; omega, hl⟩
      have tw2 := turnWheel_ev v.1 (fd_fine v).2 (fd_fine v).1 hi2 he2
      rw [u3] at tw2
      have w1e : wrap64 (r + 1) = r + 1 := w64 (by have := v.2; omega) (by have := v.2; omega)
      have J1 : Ev (fun k => laws_FnOrdersTurn.j1 k l1 r (txt (fd_ W D r)) true false W D (i2 : Int) e2) true := by
        refine Ev.succ ?_
        simp only [laws_FnOrdersTurn.j1, Bool.false_eq_true, if_false, if_true, w1e]
        refine Ev.bind tw2 (Ev.bind (fc_ok vn).2 ?_)
        simp only [if_true]
        exact J2
      have J0 : Ev (fun k => laws_FnOrdersTurn.j0 k l1 r (txt (rd_ W D r)) true (txt (fd_ W D r)) true false W D (i : Int) 1 (i2 : Int) e2) true := by
        refine Ev.succ ?_
        simp only [laws_FnOrdersTurn.j0, Bool.false_eq_true, if_false, if_true]
        refine Ev.bind (countAll_ev v.1) (Ev.bind m2 (Ev.bind n2 (Ev.bind tw ?_)))
        simp only [if_neg (show ¬ cnt W D = 0 by omega), em]
        refine Ev.bind nr ?_
        simp only [if_true, w64 (x := cnt W D - 1) (by omega) (by omega), decide_eq_true (show r < cnt W D - 1 by omega), bne_self_eq_false]
        exact J1
      refine Ev.bind (rc_ok v).2 (Ev.bind (rc_ok v).1 (Ev.bind (fc_ok v).2 (Ev.bind (fc_ok v).1 (Ev.bind t2 (Ev.bind t1 (Ev.bind u2 (Ev.bind u1 ?_)))))))
      simp only [bne_self_eq_false, Bool.false_eq_true, if_false, if_true, beq_self_eq_true, Bool.not_true, Bool.or_self]
      exact J0
    · have no := tf_no (W := W) (D := D) (r := r) (fun q => hl q.2)
      have J1 : Ev (fun k => laws_FnOrdersTurn.j1 k l1 r (txt (fd_ W D r)) false false W D 0 0) true := by
        refine Ev.succ ?_
        simp only [laws_FnOrdersTurn.j1, Bool.false_eq_true, if_false]
        exact J2
      have J0 : Ev (fun k => laws_FnOrdersTurn.j0 k l1 r (txt (rd_ W D r)) true (txt (fd_ W D r)) false false W D (i : Int) 1 0 0) true := by
        refine Ev.succ ?_
        simp only [laws_FnOrdersTurn.j0, Bool.false_eq_true, if_false, if_true]
        refine Ev.bind (countAll_ev v.1) (Ev.bind m2 (Ev.bind n2 (Ev.bind tw ?_)))
        simp only [if_neg (show ¬ cnt W D = 0 by omega), em]
        refine Ev.bind nr ?_
        simp only [if_true, w64 (x := cnt W D - 1) (by omega) (by omega), decide_eq_false (show ¬ r < cnt W D - 1 by omega), bne_self_eq_false]
        exact J1
      refine Ev.bind (rc_ok v).2 (Ev.bind (rc_ok v).1 (Ev.bind (fc_ok v).2 (Ev.bind (fc_ok v).1 (Ev.bind t2 (Ev.bind t1 (Ev.bind no.2 (Ev.bind no.1 ?_)))))))
      simp only [bne_self_eq_false, Bool.false_eq_true, if_false, if_true, beq_self_eq_true, Bool.not_true, Bool.or_self]
      exact J0
  · have no := tf_no (W := W) (D := D) (r := r) (fun q => v q.1)
    have J0 : Ev (fun k => laws_FnOrdersTurn.j0 k l1 r (⟨#[]⟩ : ByteArray) false (⟨#[]⟩ : ByteArray) false false W D 0 0 0 0) true := by
      refine Ev.succ ?_
      simp only [laws_FnOrdersTurn.j0, Bool.false_eq_true, if_false]
      exact J2
    refine Ev.bind (rc_no v).2 (Ev.bind (rc_no v).1 (Ev.bind (fc_no v).2 (Ev.bind (fc_no v).1 (Ev.bind (tr_no v).2 (Ev.bind (tr_no v).1 (Ev.bind no.2 (Ev.bind no.1 ?_)))))))
    simp only [bne_self_eq_false, Bool.false_eq_true, if_false, if_true, beq_self_eq_true, Bool.not_true, Bool.or_self]
    exact J0
end Go.Proofs.Ytijbngmlaggclaa.Pure
