/- The plain statement behind the law FnKnobsTurnOfAll: whatever the input, the law's Lean function answers true. Conditions: none but the sizes that the row gives. -/
import Derived.Test.YtiacdekbleebjaaPx0
import Derived.Lib.IndexMore
import Derived.Test.YtiacdekbleebjaaPx4
import Derived.Test.YtiacdekbleebjaaPx20
import Derived.Test.YtiacdekbleebjaaPx31
import Derived.Test.YtiacdekbleebjaaPx46
import Derived.Test.YtiacdekbleebjaaPx60
import Derived.Test.YtiacdekbleebjaaPx64
import Derived.Test.YtiacdekbleebjaaPx72
import Derived.Test.YtiacdekbleebjaaPx81
namespace Go.Proofs.Ytiacdekbleebjaa.B
open Go.RowKit Go.Proofs.Ytiacdekbleebjaa.P Go.Proofs.YtiacdekbleebjaaW.PrintWords Go.Proofs.YtiacdekbleebjaaW.PrintLast Go.Proofs.YtiacdekbleebjaaW.PrintMore
set_option linter.unusedVariables false
set_option linter.unusedSimpArgs false
theorem w64 {x : Int} (h0 : -9223372036854775808 ≤ x) (h1 : x ≤ 9223372036854775807) : wrap64 x = x := by unfold wrap64; omega
theorem ev_loop {α : Type} {g : Nat → Nat → Option α} {r : α} (n : Nat) (step : ∀ j, j < n → Ev (g (j + 1)) r → Ev (g j) r) (fin : Ev (g n) r) : Ev (g 0) r := by
  have : ∀ d, d ≤ n → Ev (g (n - d)) r := by
    intro d
    induction d with
    | zero => intro _; exact fin
    | succ d ih =>
      intro hd
      have := step (n - (d + 1)) (by omega)
      rw [show n - (d + 1) + 1 = n - d by omega] at this
      exact this (ih (by omega))
  have := this n (Nat.le_refl n)
  rwa [Nat.sub_self] at this
/-- Behind the loop's rounds the answer may differ from round to round (an early return). -/
theorem ev_down {α : Type} {g : Nat → Nat → Option α} {R : Nat → α} (n : Nat) (step : ∀ j, j < n → Ev (g (j + 1)) (R (j + 1)) → Ev (g j) (R j)) (fin : Ev (g n) (R n)) : Ev (g 0) (R 0) := by
  have : ∀ d, d ≤ n → Ev (g (n - d)) (R (n - d)) := by
    intro d
    induction d with
    | zero => intro _; exact fin
    | succ d ih =>
      intro hd
      have := step (n - (d + 1)) (by omega)
      rw [show n - (d + 1) + 1 = n - d by omega] at this
      exact this (ih (by omega))
  have := this n (Nat.le_refl n)
  rwa [Nat.sub_self] at this
theorem ev_ex {g : Nat → Option Bool} (h : Ev g true) : ∃ k, g k = some true := h.rounds
def LK (W D : Int) : Prop := 1 ≤ W ∧ W ≤ 6 ∧ 2 ≤ D ∧ D ≤ 10
instance (W D : Int) : Decidable (LK W D) := by unfold LK; infer_instance
theorem for_good {p : Int → Int → Bool} (h : ((List.range 6).all fun i => (List.range 9).all fun j => p (i + 1) (j + 2)) = true) {W D : Int} (hg : LK W D) : p W D = true := by
  obtain ⟨h1, h2, h3, h4⟩ := hg
  rw [List.all_eq_true] at h
  have a := h (W.toNat - 1) (List.mem_range.mpr (by omega))
  rw [List.all_eq_true] at a
  have b := a (D.toNat - 2) (List.mem_range.mpr (by omega))
  rw [show ((W.toNat - 1 : Nat) : Int) + 1 = W by omega, show ((D.toNat - 2 : Nat) : Int) + 2 = D by omega] at b
  exact b
theorem l1In_eq (a b c : Int) : spec_l1In.f a b c = some (decide (b ≤ a ∧ a ≤ c)) := by
  unfold spec_l1In.f
  by_cases h : a ≥ b
  · rw [if_pos h]; congr 1; rw [decide_eq_decide]; omega
  · rw [if_neg h]; congr 1; symm; rw [decide_eq_false_iff_not]; omega
theorem within_eq (a b c : Int) : impl_within.f a b c = some (decide (b ≤ a ∧ a ≤ c)) := by
  unfold impl_within.f
  by_cases h : b ≤ a
  · rw [if_pos h]; congr 1; rw [decide_eq_decide]; omega
  · rw [if_neg h]; congr 1; symm; rw [decide_eq_false_iff_not]; omega
theorem whGood_eq (W D : Int) : spec_whGood.f W D = some (decide (LK W D)) := by
  unfold spec_whGood.f
  rw [l1In_eq, Option.bind_some, l1In_eq, Option.bind_some]
  by_cases h : 1 ≤ W ∧ W ≤ 6
  · rw [if_pos (decide_eq_true h)]; congr 1; rw [decide_eq_decide]; unfold LK; omega
  · rw [if_neg (by rw [decide_eq_false h]; decide)]; congr 1; symm; rw [decide_eq_false_iff_not]; unfold LK; omega
theorem IsLock_eq (W D : Int) : impl_IsLock.f W D = some (decide (LK W D)) := by
  unfold impl_IsLock.f
  rw [within_eq, Option.bind_some, within_eq, Option.bind_some]
  by_cases h : 1 ≤ W ∧ W ≤ 6
  · rw [if_pos (decide_eq_true h)]; congr 1; rw [decide_eq_decide]; unfold LK; omega
  · rw [if_neg (by rw [decide_eq_false h]; decide)]; congr 1; symm; rw [decide_eq_false_iff_not]; unfold LK; omega
def cnt (W D : Int) : Int := D ^ W.toNat
theorem cnt_bd {W D : Int} (h : LK W D) : 2 ≤ cnt W D ∧ cnt W D ≤ 1000000 := by
  have := for_good (p := fun W D => decide (2 ≤ cnt W D ∧ cnt W D ≤ 1000000)) (by decide +kernel) h
  exact of_decide_eq_true this
theorem whCount_ev {W D : Int} (h : LK W D) : Ev (fun k => spec_whCount.f k W D) (cnt W D) := by
  have := for_good (p := fun W D => decide (spec_whCount.f 8 W D = some (cnt W D))) (by decide +kernel) h
  exact Ev.of (fun k => spec_whCount.mono _ _ k) (of_decide_eq_true this)
theorem count_ev {W D : Int} (h : LK W D) : Ev (fun k => impl_Lock_count.f k W D) (cnt W D) := by
  have := for_good (p := fun W D => decide (impl_Lock_count.f 8 W D = some (cnt W D))) (by decide +kernel) h
  exact Ev.of (fun k => impl_Lock_count.mono _ _ k) (of_decide_eq_true this)
theorem isSmall_ev (W D m : Int) : Ev (fun k => impl_isSmall.f k W D m) (decide (LK W D ∧ cnt W D ≤ m)) := by
  unfold impl_isSmall.f
  refine Ev.congr (f := fun k => if decide (LK W D) = true then ((impl_Lock_count.f k W D).bind fun t => some (decide (t ≤ m))) else some false) (fun k => by rw [IsLock_eq, Option.bind_some]) ?_
  by_cases h : LK W D
  · refine Ev.congr (f := fun k => (impl_Lock_count.f k W D).bind fun t => some (decide (t ≤ m))) (fun k => by rw [if_pos (decide_eq_true h)]) ?_
    refine Ev.bind (count_ev h) ?_
    rw [show decide (LK W D ∧ cnt W D ≤ m) = decide (cnt W D ≤ m) by rw [decide_eq_decide]; simp [h]]
    exact Ev.now _
  · rw [show decide (LK W D ∧ cnt W D ≤ m) = false by rw [decide_eq_false_iff_not]; simp [h]]
    exact Ev.congr (f := fun _ => some false) (fun k => by rw [if_neg (by simp [h])]) (Ev.now _)
end Go.Proofs.Ytiacdekbleebjaa.B
namespace Go.Proofs.Ytiacdekbleebjaa.C
open Go.RowKit Go.Proofs.Ytiacdekbleebjaa.P Go.Proofs.Ytiacdekbleebjaa.B Go.Proofs.YtiacdekbleebjaaW.PrintWords Go.Proofs.YtiacdekbleebjaaW.PrintLast Go.Proofs.YtiacdekbleebjaaW.PrintMore
set_option linter.unusedVariables false
set_option linter.unusedSimpArgs false
theorem Ev.succ {α : Type} {g : Nat → Option α} {r : α} (h : Ev (fun k => g (k + 1)) r) : Ev g r := Ev.step (fun _ => rfl) h
theorem bt_nat (s : ByteArray) (j : Nat) (h : j < s.data.toList.length) : bt s (j : Int) = ((s.data.toList[j]).toNat : Int) := by
  have h' : j < s.size := by rw [Array.length_toList] at h; exact h
  unfold bt
  rw [dif_pos (by rw [Int.toNat_natCast]; exact h')]
  simp only [Int.toNat_natCast, Array.getElem_toList]
  rfl
theorem size_len (s : ByteArray) : s.size = s.data.toList.length := by rw [Array.length_toList]; rfl
def dg (D : Int) (b : UInt8) : Bool := decide (48 ≤ (b.toNat : Int) ∧ (b.toNat : Int) < 48 + D)
def isT (D : Int) (s : ByteArray) : Bool := s.data.toList.all (dg D)
def isC (W D : Int) (s : ByteArray) : Bool := decide ((s.size : Int) = W) && isT D s
theorem drop_all {α : Type} (p : α → Bool) (l : List α) (j : Nat) (h : j < l.length) : (l.drop j).all p = (p l[j] && (l.drop (j + 1)).all p) := by
  rw [List.drop_eq_getElem_cons h, List.all_cons]
theorem isText_ev (W : Int) {D : Int} (hD : 2 ≤ D ∧ D ≤ 10) (s : ByteArray) (hs : s.size ≤ 140737488351232) : Ev (fun k => impl_Lock_isText.f k W D s) (isT D s) := by
  unfold impl_Lock_isText.f isT
  refine ev_down (g := fun j k => impl_Lock_isText.l0 k s (s.size : Int) (j : Int) W D) (R := fun j => (s.data.toList.drop j).all (dg D)) s.size ?_ ?_
  · intro j hj ih
    have hl : j < s.data.toList.length := by rw [← size_len]; exact hj
    have hb := bt_nat s j hl
    have hb2 : (s.data.toList[j]).toNat < 256 := UInt8.toNat_lt _
    refine Ev.succ ?_
    simp only [impl_Lock_isText.l0, if_pos (show (j : Int) < (s.size : Int) by omega), if_pos (show (0 : Int) ≤ (j : Int) by omega), within_eq, Option.bind_some,
      w64 (x := bt s j) (by omega) (by omega), w64 (x := 48 + D) (by omega) (by omega), w64 (x := 48 + D - 1) (by omega) (by omega), w64 (x := (j : Int) + 1) (by omega) (by omega)]
    rw [drop_all _ _ _ hl]
    by_cases h : 48 ≤ bt s j ∧ bt s j ≤ 48 + D - 1
    · have e : dg D s.data.toList[j] = true := by unfold dg; exact decide_eq_true (by omega)
      simp only [decide_eq_true h, if_true, e, Bool.true_and]
      exact ih
    · have e : dg D s.data.toList[j] = false := by unfold dg; exact decide_eq_false (by omega)
      simp only [decide_eq_false h, e, Bool.false_and, Bool.false_eq_true, if_false]
      exact Ev.now _
  · refine Ev.succ ?_
    simp only [impl_Lock_isText.l0, if_neg (show ¬ ((s.size : Nat) : Int) < (s.size : Int) by omega)]
    rw [List.drop_of_length_le (by rw [← size_len]; exact Nat.le_refl _)]
    exact Ev.now _
theorem isCode_ev {W D : Int} (hD : 2 ≤ D ∧ D ≤ 10) (s : ByteArray) (hs : s.size ≤ 140737488351232) : Ev (fun k => impl_Lock_isCode.f k W D s) (isC W D s) := by
  unfold impl_Lock_isCode.f isC
  by_cases h : (s.size : Int) = W
  · simp only [if_pos h, decide_eq_true h, Bool.true_and]
    exact Ev.bind (isText_ev W hD s hs) (Ev.now _)
  · simp only [if_neg h, decide_eq_false h, Bool.false_and]
    exact Ev.now _
theorem whCode_ev {W D : Int} (hD : 2 ≤ D ∧ D ≤ 10) (s : ByteArray) (hs : s.size ≤ 140737488351232) : Ev (fun k => spec_whCode.f k W D s) (isC W D s) := by
  unfold spec_whCode.f isC
  by_cases h : (s.size : Int) = W
  · simp only [if_pos h, decide_eq_true h, Bool.true_and]
    unfold isT
    refine ev_down (g := fun j k => spec_whCode.l0 k s (j : Int) W D) (R := fun j => (s.data.toList.drop j).all (dg D)) s.size ?_ ?_
    · intro j hj ih
      have hl : j < s.data.toList.length := by rw [← size_len]; exact hj
      have hb := bt_nat s j hl
      have hb2 : (s.data.toList[j]).toNat < 256 := UInt8.toNat_lt _
      refine Ev.succ ?_
      simp only [spec_whCode.l0, if_pos (show (j : Int) < (s.size : Int) by omega), if_pos (show (0 : Int) ≤ (j : Int) by omega), l1In_eq, Option.bind_some,
        w64 (x := bt s j) (by omega) (by omega), w64 (x := bt s j - 48) (by omega) (by omega), w64 (x := D - 1) (by omega) (by omega), w64 (x := (j : Int) + 1) (by omega) (by omega)]
      rw [drop_all _ _ _ hl]
      by_cases h : 0 ≤ bt s j - 48 ∧ bt s j - 48 ≤ D - 1
      · have e : dg D s.data.toList[j] = true := by unfold dg; exact decide_eq_true (by omega)
        simp only [decide_eq_true h, if_true, e, Bool.true_and]
        exact ih
      · have e : dg D s.data.toList[j] = false := by unfold dg; exact decide_eq_false (by omega)
        simp only [decide_eq_false h, e, Bool.false_and, Bool.false_eq_true, if_false]
        exact Ev.now _
    · refine Ev.succ ?_
      simp only [spec_whCode.l0, if_neg (show ¬ ((s.size : Nat) : Int) < (s.size : Int) by omega)]
      rw [List.drop_of_length_le (by rw [← size_len]; exact Nat.le_refl _)]
      exact Ev.now _
  · simp only [if_neg h, decide_eq_false h, Bool.false_and]
    exact Ev.now _
/-- A lock, and texts that are codes of it. -/
theorem has_ev (W D : Int) (l : List ByteArray) (hl : l.length ≤ 140737488351232) (hs : ∀ s ∈ l, s.size ≤ 140737488351232) : Ev (fun k => impl_has.f k W D l) (decide (LK W D) && l.all (isC W D)) := by
  unfold impl_has.f
  simp only [IsLock_eq, Option.bind_some]
  by_cases h : LK W D
  · simp only [decide_eq_true h, if_true, Bool.true_and]
    refine ev_down (g := fun j k => impl_has.l0 k l (l.length : Int) (j : Int) W D) (R := fun j => (l.drop j).all (isC W D)) l.length ?_ ?_
    · intro j hj ih
      refine Ev.succ ?_
      have e : rdOf ByteArray.empty l (j : Int) = l[j] := by unfold rdOf; rw [Int.toNat_natCast, List.getD_eq_getElem?_getD, List.getElem?_eq_getElem hj]; rfl
      simp only [impl_has.l0, if_pos (show (j : Int) < (l.length : Int) by omega), if_pos (show (0 : Int) ≤ (j : Int) by omega), w64 (x := (j : Int) + 1) (by omega) (by omega), e]
      refine Ev.bind (isCode_ev h.2.2 l[j] (hs _ (List.getElem_mem hj))) ?_
      rw [drop_all _ _ _ hj]
      by_cases c : isC W D l[j] = true
      · simp only [c, if_true, Bool.true_and]; exact ih
      · rw [Bool.not_eq_true] at c
        simp only [c, Bool.false_and, Bool.false_eq_true, if_false]
        exact Ev.now _
    · refine Ev.succ ?_
      simp only [impl_has.l0, if_neg (show ¬ ((l.length : Nat) : Int) < (l.length : Int) by omega)]
      rw [List.drop_of_length_le (Nat.le_refl _)]
      exact Ev.now _
  · simp only [decide_eq_false h, Bool.false_eq_true, if_false, Bool.false_and]
    exact Ev.now _
def digs (s : ByteArray) : List Int := s.data.toList.map fun b => ((b.toNat : Int) - 48) % 256
def txt (d : List Int) : ByteArray := strOfNums (d.map fun n => (48 + n) % 256)
/-- Digits of a lock. -/
def IsD (D : Int) (d : List Int) : Prop := ∀ x ∈ d, 0 ≤ x ∧ x < D
theorem digs_len (s : ByteArray) : (digs s).length = s.size := by unfold digs; rw [List.length_map, size_len]
theorem digs_get (s : ByteArray) (j : Nat) (h : j < (digs s).length) : (digs s)[j] = (bt s j - 48) % 256 := by
  unfold digs at h ⊢
  rw [List.length_map] at h
  rw [List.getElem_map, bt_nat s j h]
theorem rd_get (l : List Int) (j : Nat) (h : j < l.length) : rd l (j : Int) = l[j] := by
  unfold rd; rw [Int.toNat_natCast, List.getD_eq_getElem?_getD, List.getElem?_eq_getElem h]; rfl
theorem digs_isD {W D : Int} (hD : 2 ≤ D ∧ D ≤ 10) {s : ByteArray} (h : isT D s = true) : IsD D (digs s) := by
  intro x hx
  unfold isT at h
  rw [List.all_eq_true] at h
  obtain ⟨b, hb, rfl⟩ := List.mem_map.mp hx
  have := of_decide_eq_true (h b hb)
  omega
theorem isC_size {W D : Int} {s : ByteArray} (h : isC W D s = true) : (s.size : Int) = W := by
  unfold isC at h; rw [Bool.and_eq_true] at h; exact of_decide_eq_true h.1
theorem isC_isT {W D : Int} {s : ByteArray} (h : isC W D s = true) : isT D s = true := by
  unfold isC at h; rw [Bool.and_eq_true] at h; exact h.2
theorem txt_digs {D : Int} (hD : 2 ≤ D ∧ D ≤ 10) {s : ByteArray} (h : isT D s = true) : txt (digs s) = s := by
  unfold txt digs strOfNums
  rw [List.map_map, List.map_map]
  have : s.data.toList.map (((fun n : Int => UInt8.ofNat n.toNat) ∘ (fun n : Int => (48 + n) % 256)) ∘ fun b : UInt8 => ((b.toNat : Int) - 48) % 256) = s.data.toList := by
    conv => rhs; rw [← List.map_id s.data.toList]
    refine List.map_congr_left fun b hb => ?_
    unfold isT at h
    rw [List.all_eq_true] at h
    have := of_decide_eq_true (h b hb)
    simp only [Function.comp, id]
    rw [show (48 + ((b.toNat : Int) - 48) % 256) % 256 = (b.toNat : Int) by omega, Int.toNat_natCast, UInt8.ofNat_toNat]
  rw [this]
theorem digs_txt {d : List Int} (h : IsD 10 d) : digs (txt d) = d := by
  unfold txt digs strOfNums
  simp only
  rw [List.map_map, List.map_map]
  conv => rhs; rw [← List.map_id d]
  refine List.map_congr_left fun x hx => ?_
  have := h x hx
  simp only [Function.comp, id]
  rw [UInt8.toNat_ofNat']
  omega
theorem txt_size (d : List Int) : (txt d).size = d.length := by unfold txt; rw [strOfNums_size, List.length_map]
theorem txt_isT {D : Int} (hD : 2 ≤ D ∧ D ≤ 10) {d : List Int} (h : IsD D d) : isT D (txt d) = true := by
  unfold isT txt strOfNums
  simp only
  rw [List.all_eq_true]
  intro b hb
  rw [List.map_map] at hb
  obtain ⟨x, hx, rfl⟩ := List.mem_map.mp hb
  have := h x hx
  unfold dg
  refine decide_eq_true ?_
  simp only [Function.comp]
  rw [UInt8.toNat_ofNat']
  omega
theorem IsD.mono {D D' : Int} {d : List Int} (h : IsD D d) (hh : D ≤ D') : IsD D' d := fun x hx => ⟨(h x hx).1, by have := (h x hx).2; omega⟩
theorem txt_inj {d e : List Int} (hd : IsD 10 d) (he : IsD 10 e) (h : txt d = txt e) : d = e := by rw [← digs_txt hd, h, digs_txt he]
theorem whDigits_ev (s : ByteArray) (hs : s.size ≤ 10000000000) : Ev (fun k => spec_whDigits.f k s) (digs s) := by
  unfold spec_whDigits.f
  refine ev_loop (g := fun j k => spec_whDigits.l0 k s ((digs s).take j) (j : Int)) s.size ?_ ?_
  · intro j hj ih
    have hl : j < (digs s).length := by rw [digs_len]; exact hj
    refine Ev.succ ?_
    have ht : ((digs s).take j).length = j := by rw [List.length_take]; omega
    simp only [spec_whDigits.l0, if_pos (show (j : Int) < (s.size : Int) by omega), if_pos (show (0 : Int) ≤ (j : Int) by omega), ht, if_pos (show j < 17592186044416 by omega), w64 (x := (j : Int) + 1) (by omega) (by omega)]
    rw [List.take_succ_eq_append_getElem hl, digs_get s j hl] at ih
    exact ih
  · refine Ev.succ ?_
    simp only [spec_whDigits.l0, if_neg (show ¬ ((s.size : Nat) : Int) < (s.size : Int) by omega)]
    rw [List.take_of_length_le (by rw [digs_len]; exact Nat.le_refl _)]
    exact Ev.now _
theorem digits_ev (s : ByteArray) (hs : s.size ≤ 10000000000) : Ev (fun k => impl_digits.f k s) (digs s) := by
  unfold impl_digits.f
  refine ev_loop (g := fun j k => impl_digits.l0 k s ((digs s).take j) (s.size : Int) (j : Int)) s.size ?_ ?_
  · intro j hj ih
    have hl : j < (digs s).length := by rw [digs_len]; exact hj
    refine Ev.succ ?_
    have ht : ((digs s).take j).length = j := by rw [List.length_take]; omega
    simp only [impl_digits.l0, if_pos (show (j : Int) < (s.size : Int) by omega), if_pos (show (0 : Int) ≤ (j : Int) by omega), ht, if_pos (show j < 17592186044416 by omega), w64 (x := (j : Int) + 1) (by omega) (by omega)]
    rw [List.take_succ_eq_append_getElem hl, digs_get s j hl] at ih
    exact ih
  · refine Ev.succ ?_
    simp only [impl_digits.l0, if_neg (show ¬ ((s.size : Nat) : Int) < (s.size : Int) by omega)]
    rw [List.take_of_length_le (by rw [digs_len]; exact Nat.le_refl _)]
    exact Ev.now _
theorem strOfNums_append (a b : List Int) : strOfNums a ++ strOfNums b = strOfNums (a ++ b) := by
  apply ByteArray.ext
  rw [ByteArray.data_append]
  unfold strOfNums
  simp only [List.map_append, List.append_toArray]
theorem txt_append (a b : List Int) : txt a ++ txt b = txt (a ++ b) := by unfold txt; rw [strOfNums_append, List.map_append]
theorem text_ev (l : List Int) (hl : l.length ≤ 10000000000) (h : IsD 10 l) : Ev (fun k => impl_text.f k l) (txt l) := by
  unfold impl_text.f
  refine ev_loop (g := fun j k => impl_text.l0 k ((l.map fun n => (48 + n) % 256).take j) l (l.length : Int) (j : Int)) l.length ?_ ?_
  · intro j hj ih
    have hm : j < (l.map fun n => (48 + n) % 256).length := by rw [List.length_map]; exact hj
    have hx := h _ (List.getElem_mem hj)
    have hr := rd_get l j hj
    refine Ev.succ ?_
    have ht : ((l.map fun n => (48 + n) % 256).take j).length = j := by rw [List.length_take]; omega
    simp only [impl_text.l0, if_pos (show (j : Int) < (l.length : Int) by omega), if_pos (show (0 : Int) ≤ (j : Int) by omega), ht, if_pos (show j < 140737488355328 by omega), w64 (x := (j : Int) + 1) (by omega) (by omega), hr, w64 (x := 48 + l[j]) (by omega) (by omega)]
    rw [List.take_succ_eq_append_getElem hm, List.getElem_map] at ih
    exact ih
  · refine Ev.succ ?_
    simp only [impl_text.l0, if_neg (show ¬ ((l.length : Nat) : Int) < (l.length : Int) by omega)]
    rw [List.take_of_length_le (by rw [List.length_map]; exact Nat.le_refl _)]
    exact Ev.now _
theorem l1Num_ev {n : Int} (h : 0 ≤ n ∧ n < 10) : Ev (fun k => spec_l1Num.f k n) (txt [n]) := by
  refine Ev.succ ?_
  simp only [spec_l1Num.f, if_pos h.2, w64 (x := 48 + n) (by omega) (by omega)]
  exact Ev.now _
theorem whText_ev (l : List Int) (hl : l.length ≤ 10000000000) (h : IsD 10 l) : Ev (fun k => spec_whText.f k l) (txt l) := by
  unfold spec_whText.f
  refine ev_loop (g := fun j k => spec_whText.l0 k (txt (l.take j)) l (l.length : Int) (j : Int)) l.length ?_ ?_
  · intro j hj ih
    have hx := h _ (List.getElem_mem hj)
    have hr := rd_get l j hj
    refine Ev.succ ?_
    have ht : (l.take j).length = j := by rw [List.length_take]; omega
    simp only [spec_whText.l0, if_pos (show (j : Int) < (l.length : Int) by omega), if_pos (show (0 : Int) ≤ (j : Int) by omega), w64 (x := (j : Int) + 1) (by omega) (by omega), hr]
    refine Ev.bind (l1Num_ev hx) ?_
    simp only [txt_size, ht, List.length_singleton, if_pos (show j + 1 ≤ 9223372036854775807 by omega), txt_append]
    rw [List.take_succ_eq_append_getElem hj] at ih
    exact ih
  · refine Ev.succ ?_
    simp only [spec_whText.l0, if_neg (show ¬ ((l.length : Nat) : Int) < (l.length : Int) by omega)]
    rw [List.take_of_length_le (Nat.le_refl _)]
    exact Ev.now _
end Go.Proofs.Ytiacdekbleebjaa.C
namespace Go.Proofs.Ytiacdekbleebjaa.L
open Go.Proofs.Ytiacdekbleebjaa.C
set_option linter.unusedVariables false
set_option linter.unusedSimpArgs false
theorem pw_pos {D : Int} (h : 0 < D) : ∀ n : Nat, 0 < D ^ n
  | 0 => by simp
  | n + 1 => by rw [Int.pow_succ]; exact Int.mul_pos (pw_pos h n) h
def num (D : Int) : List Int → Int
  | [] => 0
  | x :: xs => x * D ^ xs.length + num D xs
theorem IsD.cons {D x : Int} {xs : List Int} (h : IsD D (x :: xs)) : (0 ≤ x ∧ x < D) ∧ IsD D xs := ⟨h x (List.mem_cons_self ..), fun y hy => h y (List.mem_cons_of_mem _ hy)⟩
theorem IsD.mk {D x : Int} {xs : List Int} (h : 0 ≤ x ∧ x < D) (hs : IsD D xs) : IsD D (x :: xs) := by
  intro y hy
  rcases List.mem_cons.mp hy with rfl | hy
  · exact h
  · exact hs y hy
theorem IsD.nil {D : Int} : IsD D [] := fun y hy => by cases hy
theorem num_bd {D : Int} (hD : 0 < D) : ∀ d : List Int, IsD D d → 0 ≤ num D d ∧ num D d + 1 ≤ D ^ d.length
  | [], _ => by simp [num]
  | x :: xs, h => by
    obtain ⟨⟨h0, h1⟩, hs⟩ := IsD.cons h
    have ih := num_bd hD xs hs
    have hp := pw_pos hD xs.length
    have a : x * D ^ xs.length ≤ (D - 1) * D ^ xs.length := Int.mul_le_mul_of_nonneg_right (by omega) (by omega)
    have b : 0 ≤ x * D ^ xs.length := Int.mul_nonneg h0 (by omega)
    have c : (D - 1) * D ^ xs.length = D ^ xs.length * D - D ^ xs.length := by rw [Int.sub_mul, Int.one_mul, Int.mul_comm]
    simp only [num, List.length_cons, Int.pow_succ]
    omega
theorem num_append (D : Int) : ∀ a b : List Int, num D (a ++ b) = num D a * D ^ b.length + num D b
  | [], b => by simp [num]
  | x :: xs, b => by
    simp only [List.cons_append, num, num_append D xs b, List.length_append, Int.pow_add, Int.add_mul, Int.mul_assoc]
    omega
theorem num_snoc (D : Int) (a : List Int) (x : Int) : num D (a ++ [x]) = num D a * D + x := by
  rw [num_append]; simp [num, Int.pow_succ]
def cod (D : Int) : Nat → Int → List Int
  | 0, _ => []
  | j + 1, n => (n / D ^ j % D) :: cod D j n
theorem cod_len (D : Int) : ∀ j n, (cod D j n).length = j
  | 0, _ => rfl
  | j + 1, n => by simp [cod, cod_len D j n]
theorem cod_isD {D : Int} (hD : 0 < D) : ∀ j n, IsD D (cod D j n)
  | 0, _ => IsD.nil
  | j + 1, n => IsD.mk ⟨Int.emod_nonneg _ (by omega), Int.emod_lt_of_pos _ hD⟩ (cod_isD hD j n)
theorem divmod {y q P : Int} (h0 : 0 ≤ y) (h1 : y < P) : (y + q * P) / P = q ∧ (y + q * P) % P = y := by
  constructor
  · rw [Int.add_mul_ediv_right _ _ (by omega), Int.ediv_eq_zero_of_lt h0 h1, Int.zero_add]
  · rw [Int.add_mul_emod_self_right, Int.emod_eq_of_lt h0 h1]
theorem cod_add {D : Int} (hD : 0 < D) : ∀ (j : Nat) (n t : Int), cod D j (n + t * D ^ j) = cod D j n
  | 0, _, _ => rfl
  | j + 1, n, t => by
    have e : t * D ^ (j + 1) = t * D * D ^ j := by rw [Int.pow_succ, Int.mul_comm (D ^ j) D, Int.mul_assoc]
    have hp := pw_pos hD j
    simp only [cod]
    rw [e, cod_add hD j n (t * D), Int.add_mul_ediv_right _ _ (by omega), Int.add_mul_emod_self_right]
theorem num_cod {D : Int} (hD : 0 < D) : ∀ (j : Nat) (n : Int), num D (cod D j n) = n % D ^ j
  | 0, n => by simp [cod, num, Int.emod_one]
  | j + 1, n => by
    have hp := pw_pos hD j
    simp only [cod, num, cod_len, num_cod hD j n]
    have e1 := Int.emod_add_mul_ediv n (D ^ j)
    have e2 := Int.emod_add_mul_ediv (n / D ^ j) D
    have b1 := Int.emod_nonneg n (b := D ^ j) (by omega)
    have b2 := Int.emod_lt_of_pos n hp
    have c1 := Int.emod_nonneg (n / D ^ j) (b := D) (by omega)
    have c2 := Int.emod_lt_of_pos (n / D ^ j) hD
    have a : n / D ^ j % D * D ^ j ≤ (D - 1) * D ^ j := Int.mul_le_mul_of_nonneg_right (by omega) (by omega)
    have b : 0 ≤ n / D ^ j % D * D ^ j := Int.mul_nonneg c1 (by omega)
    have c : (D - 1) * D ^ j = D ^ j * D - D ^ j := by rw [Int.sub_mul, Int.one_mul, Int.mul_comm]
    have f : n = (n / D ^ j % D * D ^ j + n % D ^ j) + (n / D ^ j / D) * (D ^ j * D) := by
      have g : n / D ^ j * D ^ j = n / D ^ j % D * D ^ j + n / D ^ j / D * (D ^ j * D) := by
        conv => lhs; rw [← e2]
        rw [Int.add_mul, Int.mul_comm D (n / D ^ j / D), Int.mul_assoc, Int.mul_comm D (D ^ j)]
      rw [Int.mul_comm (n / D ^ j)] at g
      omega
    rw [Int.pow_succ]
    conv => rhs; rw [f]
    rw [Int.add_mul_emod_self_right]
    exact (Int.emod_eq_of_lt (by omega) (by omega)).symm
theorem cod_num {D : Int} (hD : 0 < D) : ∀ d : List Int, IsD D d → cod D d.length (num D d) = d
  | [], _ => rfl
  | x :: xs, h => by
    obtain ⟨⟨h0, h1⟩, hs⟩ := IsD.cons h
    have b := num_bd hD xs hs
    have hp := pw_pos hD xs.length
    have dm := divmod (q := x) b.1 (show num D xs < D ^ xs.length by omega)
    simp only [List.length_cons, cod, num]
    rw [Int.add_comm, dm.1, Int.emod_eq_of_lt h0 h1, cod_add hD, cod_num hD xs hs]
/-- b is a with one digit turned by 1 or -1. -/
def Nx (D : Int) : List Int → List Int → Prop
  | x :: xs, y :: ys => (x = y ∧ Nx D xs ys) ∨ (xs = ys ∧ x ≠ y ∧ (y = (x + 1) % D ∨ y = (x - 1) % D))
  | _, _ => False
theorem Nx.symm {D : Int} : ∀ {a b : List Int}, IsD D a → IsD D b → Nx D a b → Nx D b a
  | [], [], _, _, h => h
  | [], _ :: _, _, _, h => h
  | _ :: _, [], _, _, h => h
  | x :: xs, y :: ys, ha, hb, h => by
    obtain ⟨⟨a0, a1⟩, ha'⟩ := IsD.cons ha
    obtain ⟨⟨b0, b1⟩, hb'⟩ := IsD.cons hb
    rcases h with ⟨e, h⟩ | ⟨rfl, hne, h⟩
    · exact .inl ⟨e.symm, Nx.symm ha' hb' h⟩
    · refine .inr ⟨rfl, fun e => hne e.symm, ?_⟩
      rcases h with h | h
      · right; rw [h, Int.emod_sub_emod, show x + 1 - 1 = x by omega, Int.emod_eq_of_lt a0 a1]
      · left; rw [h, Int.emod_add_emod, show x - 1 + 1 = x by omega, Int.emod_eq_of_lt a0 a1]
end Go.Proofs.Ytiacdekbleebjaa.L
namespace Go.Proofs.Ytiacdekbleebjaa.A
open Go.RowKit Go.Proofs.Ytiacdekbleebjaa.P Go.Proofs.Ytiacdekbleebjaa.B Go.Proofs.Ytiacdekbleebjaa.C Go.Proofs.Ytiacdekbleebjaa.L Go.Proofs.YtiacdekbleebjaaW.PrintWords Go.Proofs.YtiacdekbleebjaaW.PrintLast Go.Proofs.YtiacdekbleebjaaW.PrintMore
set_option linter.unusedVariables false
set_option linter.unusedSimpArgs false
theorem tm {a D : Int} (hD : 0 < D) : Int.tmod (Int.tmod a D + D) D = a % D ∧ 0 < Int.tmod a D + D ∧ Int.tmod a D + D < 2 * D := by
  have key : ∃ t q, Int.tmod a D = t ∧ -D < t ∧ t < D ∧ a = t + q * D := by
    by_cases h : 0 ≤ a
    · refine ⟨a % D, a / D, Int.tmod_eq_emod_of_nonneg h, ?_, Int.emod_lt_of_pos _ hD, ?_⟩
      · have := Int.emod_nonneg a (b := D) (by omega); omega
      · rw [Int.mul_comm, Int.emod_add_mul_ediv]
    · refine ⟨-((-a) % D), -((-a) / D), ?_, ?_, ?_, ?_⟩
      · have e := Int.neg_tmod (a := -a) (b := D)
        rw [Int.neg_neg] at e
        rw [e, Int.tmod_eq_emod_of_nonneg (by omega)]
      · have := Int.emod_lt_of_pos (-a) hD; omega
      · have := Int.emod_nonneg (-a) (b := D) (by omega); omega
      · have := Int.emod_add_mul_ediv (-a) D
        rw [Int.neg_mul, Int.mul_comm]; omega
  obtain ⟨t, q, ht, h1, h2, ha⟩ := key
  refine ⟨?_, by omega, by omega⟩
  rw [ht, Int.tmod_eq_emod_of_nonneg (by omega), Int.add_emod_right, ha, Int.add_mul_emod_self_right]
theorem around_eq {a D : Int} (hD : 1 ≤ D ∧ D ≤ 1000) : impl_around.f a D = some (a % D) := by
  unfold impl_around.f
  obtain ⟨h1, h2, h3⟩ := tm (a := a) (show 0 < D by omega)
  rw [if_neg (by omega), w64 (by omega) (by omega), h1]
theorem l1Mod_eq {a D : Int} (hD : 1 ≤ D ∧ D ≤ 1000) : spec_l1Mod.f a D = some (a % D) := by
  unfold spec_l1Mod.f
  obtain ⟨h1, h2, h3⟩ := tm (a := a) (show 0 < D by omega)
  rw [if_neg (by omega), w64 (by omega) (by omega), h1]
theorem pow_le {D : Int} (h0 : 0 < D) (h : D ≤ 10) : ∀ n : Nat, D ^ n ≤ 10 ^ n
  | 0 => by simp
  | n + 1 => by
    rw [Int.pow_succ, Int.pow_succ]
    have a := pow_le h0 h n
    have p := pw_pos h0 n
    have b : D ^ n * D ≤ D ^ n * 10 := Int.mul_le_mul_of_nonneg_left h (by omega)
    omega
theorem ten_le {n : Nat} (h : n ≤ 15) : (10 : Int) ^ n ≤ 1000000000000000 := by
  have : ((List.range 16).all fun n => decide ((10 : Int) ^ n ≤ 1000000000000000)) = true := by decide +kernel
  rw [List.all_eq_true] at this
  exact of_decide_eq_true (this n (List.mem_range.mpr (by omega)))
theorem pow15 {D : Int} (h0 : 0 < D) (h : D ≤ 10) {n : Nat} (hn : n ≤ 15) : D ^ n ≤ 1000000000000000 := Int.le_trans (pow_le h0 h n) (ten_le hn)
theorem IsD.take {D : Int} {d : List Int} (h : IsD D d) (j : Nat) : IsD D (d.take j) := fun x hx => h x (List.mem_of_mem_take hx)
theorem IsD.drop {D : Int} {d : List Int} (h : IsD D d) (j : Nat) : IsD D (d.drop j) := fun x hx => h x (List.mem_of_mem_drop hx)
theorem IsD.get {D : Int} {d : List Int} (h : IsD D d) {j : Nat} (hj : j < d.length) : 0 ≤ d[j] ∧ d[j] < D := h _ (List.getElem_mem hj)
theorem num_small {D : Int} (hD : 2 ≤ D ∧ D ≤ 10) {d : List Int} (h : IsD D d) (hl : d.length ≤ 15) : 0 ≤ num D d ∧ num D d < 1000000000000000 := by
  have a := num_bd (show 0 < D by omega) d h
  have b := pow15 (show 0 < D by omega) hD.2 hl
  omega
theorem number_ev (W : Int) {D : Int} (hD : 2 ≤ D ∧ D ≤ 10) (s : ByteArray) (hs : s.size ≤ 15) (h : isT D s = true) : Ev (fun k => impl_Lock_number.f k W D s) (num D (digs s)) := by
  unfold impl_Lock_number.f
  refine Ev.bind (digits_ev s (by omega)) ?_
  have hd := digs_isD hD h (W := W)
  have hl : (digs s).length ≤ 15 := by rw [digs_len]; exact hs
  generalize digs s = d at *
  refine ev_loop (g := fun j k => impl_Lock_number.l0 k (num D (d.take j)) d (d.length : Int) (j : Int) W D) d.length ?_ ?_
  · intro j hj ih
    have b := num_small hD (IsD.take hd j) (by rw [List.length_take]; omega)
    have x := IsD.get hd hj
    have hm : num D (d.take j) * D ≤ num D (d.take j) * 10 := Int.mul_le_mul_of_nonneg_left hD.2 b.1
    have hm0 : 0 ≤ num D (d.take j) * D := Int.mul_nonneg b.1 (by omega)
    refine Ev.succ ?_
    simp only [impl_Lock_number.l0, if_pos (show (j : Int) < (d.length : Int) by omega), if_pos (show (0 : Int) ≤ (j : Int) by omega), rd_get d j hj, w64 (x := num D (d.take j) * D) (by omega) (by omega), w64 (x := num D (d.take j) * D + d[j]) (by omega) (by omega), w64 (x := (j : Int) + 1) (by omega) (by omega)]
    rw [List.take_succ_eq_append_getElem hj, num_snoc] at ih
    exact ih
  · refine Ev.succ ?_
    simp only [impl_Lock_number.l0, if_neg (show ¬ ((d.length : Nat) : Int) < (d.length : Int) by omega)]
    rw [List.take_of_length_le (Nat.le_refl _)]
    exact Ev.now _
end Go.Proofs.Ytiacdekbleebjaa.A
namespace Go.Proofs.Ytiacdekbleebjaa.O
open Go.RowKit Go.Proofs.Ytiacdekbleebjaa.P Go.Proofs.Ytiacdekbleebjaa.B Go.Proofs.Ytiacdekbleebjaa.C Go.Proofs.Ytiacdekbleebjaa.L Go.Proofs.Ytiacdekbleebjaa.A Go.Proofs.YtiacdekbleebjaaW.PrintWords Go.Proofs.YtiacdekbleebjaaW.PrintLast Go.Proofs.YtiacdekbleebjaaW.PrintMore
set_option linter.unusedVariables false
set_option linter.unusedSimpArgs false
theorem LK.w {W D : Int} (h : LK W D) : (W.toNat : Int) = W ∧ W.toNat ≤ 6 ∧ 0 < W.toNat := by obtain ⟨h1, h2, _⟩ := h; omega
theorem LK.d {W D : Int} (h : LK W D) : 2 ≤ D ∧ D ≤ 10 := h.2.2
theorem rep_set (m : Nat) (c : List Int) (v : Int) : (List.replicate (m + 1) 0 ++ c).set m v = List.replicate m 0 ++ v :: c := by
  rw [List.replicate_succ', List.append_assoc, List.set_append_right _ _ (by simp), List.length_replicate, Nat.sub_self]
  rfl
theorem div_step {D : Int} (hD : 0 < D) (n : Int) (j : Nat) : n / D ^ j / D = n / D ^ (j + 1) := by
  rw [Int.pow_succ, Int.ediv_ediv_of_nonneg (Int.le_of_lt (pw_pos hD j))]
theorem div_bd {D : Int} (hD : 0 < D) {n : Int} (h0 : 0 ≤ n) (j : Nat) : 0 ≤ n / D ^ j ∧ n / D ^ j ≤ n := by
  have hp := pw_pos hD j
  exact ⟨Int.ediv_nonneg h0 (by omega), Int.ediv_le_self _ h0⟩
/-- The text of a code, by its digits. -/
theorem codeOf {W D : Int} (h : LK W D) {s : ByteArray} (hc : isC W D s = true) : (digs s).length = W.toNat ∧ IsD D (digs s) ∧ txt (digs s) = s := by
  have z := isC_size hc
  refine ⟨by rw [digs_len]; omega, digs_isD (W := W) (LK.d h) (isC_isT hc), txt_digs (LK.d h) (isC_isT hc)⟩
end Go.Proofs.Ytiacdekbleebjaa.O
namespace Go.Proofs.Ytiacdekbleebjaa.O2
open Go.RowKit Go.Proofs.Ytiacdekbleebjaa.P Go.Proofs.Ytiacdekbleebjaa.B Go.Proofs.Ytiacdekbleebjaa.C Go.Proofs.Ytiacdekbleebjaa.L Go.Proofs.Ytiacdekbleebjaa.A Go.Proofs.Ytiacdekbleebjaa.O Go.Proofs.YtiacdekbleebjaaW.PrintWords Go.Proofs.YtiacdekbleebjaaW.PrintLast Go.Proofs.YtiacdekbleebjaaW.PrintMore
set_option linter.unusedVariables false
set_option linter.unusedSimpArgs false
def trn (m : Nat) : S48 := ⟨((m / 2 : Nat) : Int), if m % 2 = 0 then 1 else -1⟩
def trns (W : Nat) : List S48 := (List.range (2 * W)).map trn
theorem turns_ev {W : Nat} (h : W ≤ 6) : Ev (fun k => impl_turns.f k (W : Int)) (trns W) := by
  have : W = 0 ∨ W = 1 ∨ W = 2 ∨ W = 3 ∨ W = 4 ∨ W = 5 ∨ W = 6 := by omega
  rcases this with rfl | rfl | rfl | rfl | rfl | rfl | rfl <;> exact Ev.of (fun k => impl_turns.mono _ k) (k := 10) (by kernel_rfl)
def tur (D : Int) (i : Nat) (by_ : Int) (a : List Int) : List Int := a.set i ((a.getD i 0 + by_) % D)
theorem toList_inj {s t : ByteArray} : s.toList = t.toList ↔ s = t := by
  constructor
  · intro h
    rw [ByteArray.toList_eq, ByteArray.toList_eq] at h
    exact ByteArray.ext (Array.ext' h)
  · exact fun h => by rw [h]
end Go.Proofs.Ytiacdekbleebjaa.O2
namespace Go.Proofs.Ytiacdekbleebjaa.O3
open Go.RowKit Go.Proofs.Ytiacdekbleebjaa.P Go.Proofs.Ytiacdekbleebjaa.B Go.Proofs.Ytiacdekbleebjaa.C Go.Proofs.Ytiacdekbleebjaa.L Go.Proofs.Ytiacdekbleebjaa.A Go.Proofs.Ytiacdekbleebjaa.O Go.Proofs.Ytiacdekbleebjaa.O2 Go.Proofs.YtiacdekbleebjaaW.PrintWords Go.Proofs.YtiacdekbleebjaaW.PrintLast Go.Proofs.YtiacdekbleebjaaW.PrintMore
set_option linter.unusedVariables false
set_option linter.unusedSimpArgs false
theorem code_ev {W D : Int} (h : LK W D) {n : Int} (h0 : 0 ≤ n) (h1 : n ≤ 1000000000) : Ev (fun k => impl_Lock_code.f k W D n) (txt (cod D W.toNat n)) := by
  obtain ⟨hw, hw6, hw0⟩ := LK.w h
  have hD := LK.d h
  have hD0 : 0 < D := by omega
  unfold impl_Lock_code.f
  simp only [if_pos (show 0 ≤ W by omega), if_pos (show W.toNat ≤ 35184372088832 by omega), w64 (x := W - 1) (by omega) (by omega)]
  have key := ev_loop (g := fun j k => impl_Lock_code.l0 k (n / D ^ j) (List.replicate (W.toNat - j) 0 ++ cod D j n) ((W.toNat : Int) - 1 - j) W D) (r := txt (cod D W.toNat n)) W.toNat ?_ ?_
  · rw [Int.pow_zero, Int.ediv_one] at key
    simp only [Nat.sub_zero, cod, List.append_nil, hw] at key
    rw [show W - 1 - ((0 : Nat) : Int) = W - 1 by omega] at key
    exact key
  · intro j hj ih
    have db := div_bd hD0 h0 j
    have db1 := div_bd hD0 h0 (j + 1)
    refine Ev.succ ?_
    have e1 : (List.replicate (W.toNat - j) 0 ++ cod D j n).length = W.toNat := by simp [cod_len]; omega
    have e2 : Int.tdiv (n / D ^ j) D = n / D ^ (j + 1) := by rw [Int.tdiv_eq_ediv_of_nonneg db.1, div_step hD0]
    have e3 : Int.tmod (n / D ^ j) D = n / D ^ j % D := Int.tmod_eq_emod_of_nonneg db.1
    have e4 : ((W.toNat : Int) - 1 - j).toNat = W.toNat - (j + 1) := by omega
    simp only [impl_Lock_code.l0, e1, if_pos (show (W.toNat : Int) - 1 - j ≥ 0 by omega), if_neg (show ¬ D = 0 by omega), if_pos (show (W.toNat : Int) - 1 - j < (W.toNat : Int) by omega), e2, e3, e4,
      w64 (x := n / D ^ (j + 1)) (by omega) (by omega), w64 (x := (W.toNat : Int) - 1 - j - 1) (by omega) (by omega)]
    rw [show W.toNat - j = W.toNat - (j + 1) + 1 by omega, rep_set]
    rw [show (W.toNat : Int) - 1 - j - 1 = (W.toNat : Int) - 1 - ((j + 1 : Nat) : Int) by omega]
    exact ih
  · refine Ev.succ ?_
    simp only [impl_Lock_code.l0, if_neg (show ¬ ((W.toNat : Int) - 1 - (W.toNat : Int) ≥ 0) by omega), Nat.sub_self, List.replicate_zero, List.nil_append]
    exact Ev.bind (text_ev _ (by rw [cod_len]; omega) (IsD.mono (cod_isD hD0 _ _) hD.2)) (Ev.now _)
end Go.Proofs.Ytiacdekbleebjaa.O3
namespace Go.Proofs.Ytiacdekbleebjaa.R
open Go.RowKit Go.Proofs.Ytiacdekbleebjaa.P Go.Proofs.Ytiacdekbleebjaa.B Go.Proofs.Ytiacdekbleebjaa.C Go.Proofs.Ytiacdekbleebjaa.L Go.Proofs.Ytiacdekbleebjaa.A Go.Proofs.Ytiacdekbleebjaa.O Go.Proofs.Ytiacdekbleebjaa.O2 Go.Proofs.Ytiacdekbleebjaa.O3 Go.Proofs.YtiacdekbleebjaaW.PrintWords Go.Proofs.YtiacdekbleebjaaW.PrintLast Go.Proofs.YtiacdekbleebjaaW.PrintMore
set_option linter.unusedVariables false
set_option linter.unusedSimpArgs false
/-- A lock of rings. -/
def RK (W D : Int) : Prop := LK W D ∧ cnt W D ≤ 1000
instance (W D : Int) : Decidable (RK W D) := by unfold RK; infer_instance
end Go.Proofs.Ytiacdekbleebjaa.R
namespace Go.Proofs.Ytiacdekbleebjaa.RS
open Go.RowKit Go.Proofs.Ytiacdekbleebjaa.P Go.Proofs.Ytiacdekbleebjaa.B Go.Proofs.Ytiacdekbleebjaa.C Go.Proofs.Ytiacdekbleebjaa.L Go.Proofs.Ytiacdekbleebjaa.A Go.Proofs.Ytiacdekbleebjaa.O Go.Proofs.Ytiacdekbleebjaa.O2 Go.Proofs.Ytiacdekbleebjaa.O3 Go.Proofs.Ytiacdekbleebjaa.R Go.Proofs.YtiacdekbleebjaaW.PrintWords Go.Proofs.YtiacdekbleebjaaW.PrintLast Go.Proofs.YtiacdekbleebjaaW.PrintMore
set_option linter.unusedVariables false
set_option linter.unusedSimpArgs false
theorem whNumber_ev (W : Int) {D : Int} (hD : 2 ≤ D ∧ D ≤ 10) (s : ByteArray) (hs : s.size ≤ 15) (h : isT D s = true) : Ev (fun k => spec_whNumber.f k W D s) (num D (digs s)) := by
  unfold spec_whNumber.f
  refine Ev.bind (whDigits_ev s (by omega)) ?_
  have hd := digs_isD hD h (W := W)
  have hl : (digs s).length ≤ 15 := by rw [digs_len]; exact hs
  generalize digs s = d at *
  refine ev_loop (g := fun j k => spec_whNumber.l0 k (num D (d.take j)) d (d.length : Int) (j : Int) W D) d.length ?_ ?_
  · intro j hj ih
    have b := num_small hD (IsD.take hd j) (by rw [List.length_take]; omega)
    have x := IsD.get hd hj
    have hm : num D (d.take j) * D ≤ num D (d.take j) * 10 := Int.mul_le_mul_of_nonneg_left hD.2 b.1
    have hm0 : 0 ≤ num D (d.take j) * D := Int.mul_nonneg b.1 (by omega)
    refine Ev.succ ?_
    simp only [spec_whNumber.l0, if_pos (show (j : Int) < (d.length : Int) by omega), if_pos (show (0 : Int) ≤ (j : Int) by omega), rd_get d j hj, w64 (x := num D (d.take j) * D) (by omega) (by omega), w64 (x := num D (d.take j) * D + d[j]) (by omega) (by omega), w64 (x := (j : Int) + 1) (by omega) (by omega)]
    rw [List.take_succ_eq_append_getElem hj, num_snoc] at ih
    exact ih
  · refine Ev.succ ?_
    simp only [spec_whNumber.l0, if_neg (show ¬ ((d.length : Nat) : Int) < (d.length : Int) by omega)]
    rw [List.take_of_length_le (Nat.le_refl _)]
    exact Ev.now _
/-- The number of a code. -/
def nu (D : Int) (s : ByteArray) : Int := num D (digs s)
theorem nu_bd {W D : Int} (h : LK W D) {s : ByteArray} (hc : isC W D s = true) : 0 ≤ nu D s ∧ nu D s < cnt W D := by
  obtain ⟨h1, h2, h3⟩ := codeOf h hc
  have := num_bd (show 0 < D by have := LK.d h; omega) _ h2
  rw [h1] at this
  unfold nu cnt
  omega
theorem nu_cod {W D : Int} (h : LK W D) {s : ByteArray} (hc : isC W D s = true) : s = txt (cod D W.toNat (nu D s)) := by
  obtain ⟨h1, h2, h3⟩ := codeOf h hc
  unfold nu
  rw [← h1, cod_num (show 0 < D by have := LK.d h; omega) _ h2, h3]
theorem nu_txt {W D : Int} (h : LK W D) {n : Int} (h0 : 0 ≤ n) (h1 : n < cnt W D) : nu D (txt (cod D W.toNat n)) = n := by
  have hD := LK.d h
  have hD0 : 0 < D := by omega
  unfold nu
  rw [digs_txt (IsD.mono (cod_isD hD0 _ _) hD.2), num_cod hD0]
  exact Int.emod_eq_of_lt h0 h1
theorem cod_isC {W D : Int} (h : LK W D) (n : Int) : isC W D (txt (cod D W.toNat n)) = true := by
  have hD := LK.d h
  obtain ⟨hw, _⟩ := LK.w h
  unfold isC
  rw [txt_isT hD (cod_isD (by omega) _ _), txt_size, cod_len, Bool.and_true]
  exact decide_eq_true hw
end Go.Proofs.Ytiacdekbleebjaa.RS
namespace Go.Proofs.Ytiacdekbleebjaa.D2
open Go.RowKit Go.Proofs.Ytiacdekbleebjaa.P Go.Proofs.Ytiacdekbleebjaa.B Go.Proofs.Ytiacdekbleebjaa.C Go.Proofs.Ytiacdekbleebjaa.L Go.Proofs.Ytiacdekbleebjaa.A Go.Proofs.Ytiacdekbleebjaa.O Go.Proofs.Ytiacdekbleebjaa.O2 Go.Proofs.Ytiacdekbleebjaa.R Go.Proofs.Ytiacdekbleebjaa.RS Go.Proofs.YtiacdekbleebjaaW.PrintWords Go.Proofs.YtiacdekbleebjaaW.PrintLast Go.Proofs.YtiacdekbleebjaaW.PrintMore
set_option linter.unusedVariables false
set_option linter.unusedSimpArgs false
def gt (l : List ByteArray) (j : Nat) : ByteArray := l.getD j ByteArray.empty
theorem rd_gt (l : List ByteArray) (j : Nat) : rdOf ByteArray.empty l (j : Int) = gt l j := by unfold rdOf gt; rw [Int.toNat_natCast]
theorem gt_get (l : List ByteArray) {j : Nat} (h : j < l.length) : gt l j = l[j] := by unfold gt; rw [List.getD_eq_getElem?_getD, List.getElem?_eq_getElem h]; rfl
def hasS (l : List ByteArray) (s : ByteArray) : Bool := l.any fun t => decide (t.data.toList = s.data.toList)
instance : Nonempty S48 := ⟨⟨0, 0⟩⟩
end Go.Proofs.Ytiacdekbleebjaa.D2
namespace Go.Proofs.Ytiacdekbleebjaa.NX
open Go.RowKit Go.Proofs.Ytiacdekbleebjaa.P Go.Proofs.Ytiacdekbleebjaa.B Go.Proofs.Ytiacdekbleebjaa.C Go.Proofs.Ytiacdekbleebjaa.L Go.Proofs.Ytiacdekbleebjaa.A Go.Proofs.Ytiacdekbleebjaa.O Go.Proofs.Ytiacdekbleebjaa.O2 Go.Proofs.Ytiacdekbleebjaa.R Go.Proofs.Ytiacdekbleebjaa.RS Go.Proofs.Ytiacdekbleebjaa.D2 Go.Proofs.YtiacdekbleebjaaW.PrintWords Go.Proofs.YtiacdekbleebjaaW.PrintLast Go.Proofs.YtiacdekbleebjaaW.PrintMore
set_option linter.unusedVariables false
set_option linter.unusedSimpArgs false
/-- How many texts at the head are less. -/
def pl (l : List ByteArray) (s : ByteArray) : Nat := (l.takeWhile fun t => Op.bytesLess t.toList s.toList).length
theorem trn_f {m : Nat} : (trn m).f0.toNat = m / 2 ∧ ((trn m).f0 = ((m / 2 : Nat) : Int)) ∧ ((trn m).f1 = 1 ∨ (trn m).f1 = -1) := by
  refine ⟨by simp only [trn]; omega, rfl, ?_⟩
  simp only [trn]; split <;> simp
end Go.Proofs.Ytiacdekbleebjaa.NX
namespace Go.Proofs.Ytiacdekbleebjaa.DE
open Go.RowKit Go.Proofs.Ytiacdekbleebjaa.P Go.Proofs.Ytiacdekbleebjaa.B Go.Proofs.Ytiacdekbleebjaa.C Go.Proofs.Ytiacdekbleebjaa.L Go.Proofs.Ytiacdekbleebjaa.A Go.Proofs.Ytiacdekbleebjaa.O Go.Proofs.Ytiacdekbleebjaa.O2 Go.Proofs.Ytiacdekbleebjaa.R Go.Proofs.Ytiacdekbleebjaa.RS Go.Proofs.Ytiacdekbleebjaa.D2 Go.Proofs.Ytiacdekbleebjaa.NX Go.Proofs.YtiacdekbleebjaaW.PrintWords Go.Proofs.YtiacdekbleebjaaW.PrintLast Go.Proofs.YtiacdekbleebjaaW.PrintMore
set_option linter.unusedVariables false
set_option linter.unusedSimpArgs false
def ls (l : List ByteArray) (j : Nat) : Bool := Op.bytesLess (gt l (j - 1)).toList (gt l j).toList
end Go.Proofs.Ytiacdekbleebjaa.DE
namespace Go.Proofs.Ytiacdekbleebjaa.Q
set_option linter.unusedVariables false
set_option linter.unusedSimpArgs false
/-- The distance of a node in a table; -1 of those that are not reached. -/
def dt (far : List Int) (v : Nat) : Int := far.getD v (-1)
theorem dt_set (far : List Int) (v : Nat) (d : Int) (w : Nat) (h : v < far.length) : dt (far.set v d) w = if w = v then d else dt far w := by
  unfold dt
  rw [List.getD_eq_getElem?_getD, List.getD_eq_getElem?_getD, List.getElem?_set]
  by_cases e : v = w
  · subst e; simp [h]
  · rw [if_neg e, if_neg (fun q => e q.symm)]
theorem dt_lt {far : List Int} {v : Nat} (h : 0 ≤ dt far v) : v < far.length := by
  rcases Nat.lt_or_ge v far.length with q | q
  · exact q
  · unfold dt at h
    rw [List.getD_eq_getElem?_getD, List.getElem?_eq_none q] at h
    simp at h
/-- One neighbour. -/
def vis (live : Nat → Bool) (d : Int) (s : List Int × List Nat) (v : Nat) : List Int × List Nat :=
  if dt s.1 v < 0 ∧ live v = true then (s.1.set v d, s.2 ++ [v]) else s
/-- All neighbours of a node. -/
def one (nb : Nat → List Nat) (live : Nat → Bool) (u : Nat) (s : List Int × List Nat) : List Int × List Nat := (nb u).foldl (vis live (dt s.1 u + 1)) s
def run (nb : Nat → List Nat) (live : Nat → Bool) : Nat → List Int × List Nat → List Int
  | 0, s => s.1
  | _ + 1, (far, []) => far
  | k + 1, (far, u :: q) => run nb live k (one nb live u (far, q))
structure Inv (N : Nat) (nb : Nat → List Nat) (live : Nat → Bool) (s : Nat) (far : List Int) (q done : List Nat) : Prop where
  len : far.length = N
  ge : ∀ v, -1 ≤ dt far v
  start : dt far s = 0
  zero : ∀ v, dt far v = 0 → v = s
  qin : ∀ v ∈ q, 0 ≤ dt far v
  din : ∀ v ∈ done, 0 ≤ dt far v
  all : ∀ v, 0 ≤ dt far v → v ∈ q ∨ v ∈ done
  closed : ∀ u ∈ done, ∀ v ∈ nb u, live v = true → 0 ≤ dt far v ∧ dt far v ≤ dt far u + 1
  pred : ∀ v, 0 < dt far v → live v = true ∧ ∃ u, v ∈ nb u ∧ dt far u = dt far v - 1
  sort : q.Pairwise fun x y => dt far x ≤ dt far y
  max : ∀ v, ∀ x ∈ q, dt far v ≤ dt far x + 1
  nodup : (done ++ q).Nodup
  bd : ∀ v, dt far v ≤ (done.length : Int)
/-- While the neighbours of a node are gone through. -/
structure InI (N : Nat) (nb : Nat → List Nat) (live : Nat → Bool) (s : Nat) (u : Nat) (d : Int) (seen : List Nat) (far : List Int) (q done : List Nat) : Prop where
  len : far.length = N
  ge : ∀ v, -1 ≤ dt far v
  du : d = dt far u + 1
  u0 : 0 ≤ dt far u
  start : dt far s = 0
  zero : ∀ v, dt far v = 0 → v = s
  qin : ∀ v ∈ q, 0 ≤ dt far v
  din : ∀ v ∈ done, 0 ≤ dt far v
  all : ∀ v, 0 ≤ dt far v → v ∈ q ∨ v = u ∨ v ∈ done
  closed : ∀ u ∈ done, ∀ v ∈ nb u, live v = true → 0 ≤ dt far v ∧ dt far v ≤ dt far u + 1
  clu : ∀ v ∈ seen, live v = true → 0 ≤ dt far v
  pred : ∀ v, 0 < dt far v → live v = true ∧ ∃ u, v ∈ nb u ∧ dt far u = dt far v - 1
  sort : q.Pairwise fun x y => dt far x ≤ dt far y
  max : ∀ v, dt far v ≤ d
  lo : ∀ x ∈ q, dt far u ≤ dt far x
  nodup : (u :: (done ++ q)).Nodup
  bd : ∀ v, dt far v ≤ (done.length : Int) + 1
  ubd : dt far u ≤ (done.length : Int)
theorem InI.step {N : Nat} {nb : Nat → List Nat} {live : Nat → Bool} {s u : Nat} {d : Int} {seen : List Nat} {far : List Int} {q done : List Nat} (h : InI N nb live s u d seen far q done) {v : Nat} (hv : v ∈ nb u) (hvN : v < N) :
    InI N nb live s u d (v :: seen) (vis live d (far, q) v).1 (vis live d (far, q) v).2 done := by
  unfold vis
  simp only
  by_cases c : dt far v < 0 ∧ live v = true
  · rw [if_pos c]
    have hl : v < far.length := by rw [h.len]; exact hvN
    have e := fun w => dt_set far v d w hl
    have hne : ∀ w, 0 ≤ dt far w → w ≠ v := fun w hw q => by rw [q] at hw; omega
    have same : ∀ w, 0 ≤ dt far w → dt (far.set v d) w = dt far w := fun w hw => by rw [e, if_neg (hne w hw)]
    have self : dt (far.set v d) v = d := by rw [e, if_pos rfl]
    have hd := h.du
    have hu0 := h.u0
    have eu := same u h.u0
    have notin : v ∉ u :: (done ++ q) := by
      intro hm
      rcases List.mem_cons.mp hm with rfl | hm
      · omega
      · rcases List.mem_append.mp hm with hm | hm
        · have := h.din v hm; omega
        · have := h.qin v hm; omega
    refine { len := by rw [List.length_set]; exact h.len, ge := ?_, du := by rw [eu]; exact hd, u0 := by rw [eu]; exact hu0, start := by rw [same s (by have := h.start; omega)]; exact h.start, zero := ?_, qin := ?_, din := ?_, all := ?_, closed := ?_, clu := ?_, pred := ?_, sort := ?_, max := ?_, lo := ?_, nodup := ?_, bd := ?_, ubd := by rw [eu]; exact h.ubd }
    · intro w; rw [e]; split
      · omega
      · exact h.ge w
    · intro w hw
      rw [e] at hw
      split at hw
      · omega
      · exact h.zero w hw
    · intro w hw
      rcases List.mem_append.mp hw with hw | hw
      · rw [same w (h.qin w hw)]; exact h.qin w hw
      · rw [List.mem_singleton.mp hw, self]; omega
    · intro w hw; rw [same w (h.din w hw)]; exact h.din w hw
    · intro w hw
      rw [e] at hw
      split at hw
      · rename_i q_; subst q_; exact .inl (List.mem_append.mpr (.inr (List.mem_singleton.mpr rfl)))
      · rcases h.all w hw with a | a
        · exact .inl (List.mem_append.mpr (.inl a))
        · exact .inr a
    · intro x hx w hw hl
      have := h.closed x hx w hw hl
      rw [same w this.1, same x (h.din x hx)]; exact this
    · intro w hw hl
      rcases List.mem_cons.mp hw with rfl | hw
      · rw [self]; omega
      · have := h.clu w hw hl; rw [same w this]; exact this
    · intro w hw
      rw [e] at hw
      split at hw
      · rename_i q_; subst q_
        exact ⟨c.2, u, hv, by rw [self, eu]; omega⟩
      · rename_i q_
        obtain ⟨hl, x, hx, ex⟩ := h.pred w hw
        exact ⟨hl, x, hx, by rw [same x (by omega), e, if_neg q_]; exact ex⟩
    · rw [List.pairwise_append]
      refine ⟨?_, by simp, ?_⟩
      · refine List.Pairwise.imp_of_mem ?_ h.sort
        intro a b ha hb hab
        rw [same a (h.qin a ha), same b (h.qin b hb)]; exact hab
      · intro a ha b hb
        rw [List.mem_singleton.mp hb, self, same a (h.qin a ha)]; exact h.max a
    · intro w; rw [e]; split
      · omega
      · exact h.max w
    · intro x hx
      rw [eu]
      rcases List.mem_append.mp hx with hx | hx
      · rw [same x (h.qin x hx)]; exact h.lo x hx
      · rw [List.mem_singleton.mp hx, self]; omega
    · have hn := h.nodup
      rw [← List.append_assoc, ← List.cons_append, List.nodup_append]
      refine ⟨hn, by simp, ?_⟩
      intro a ha b hb
      rw [List.mem_singleton.mp hb]
      exact fun q_ => notin (q_ ▸ ha)
    · intro w; rw [e]; split
      · have := h.ubd; omega
      · exact h.bd w
  · rw [if_neg c]
    refine { h with clu := ?_ }
    intro w hw hl
    show 0 ≤ dt far w
    rcases List.mem_cons.mp hw with rfl | hw
    · have : ¬ dt far w < 0 := fun q_ => c ⟨q_, hl⟩
      omega
    · exact h.clu w hw hl
theorem InI.fold {N : Nat} {nb : Nat → List Nat} {live : Nat → Bool} {s u : Nat} {d : Int} (hN : ∀ v ∈ nb u, v < N) : ∀ (l seen : List Nat) (st : List Int × List Nat) (done : List Nat), (∀ v ∈ l, v ∈ nb u) → InI N nb live s u d seen st.1 st.2 done →
    ∃ seen', (∀ v ∈ l, v ∈ seen') ∧ (∀ v ∈ seen, v ∈ seen') ∧ InI N nb live s u d seen' (l.foldl (vis live d) st).1 (l.foldl (vis live d) st).2 done
  | [], seen, st, done, _, h => ⟨seen, by simp, fun _ h => h, h⟩
  | v :: l, seen, st, done, hl, h => by
    have hv := hl v (List.mem_cons_self ..)
    obtain ⟨s', h1, h2, h3⟩ := InI.fold hN l (v :: seen) (vis live d st v) done (fun w hw => hl w (List.mem_cons_of_mem _ hw)) (h.step hv (hN v hv))
    refine ⟨s', ?_, fun w hw => h2 w (List.mem_cons_of_mem _ hw), h3⟩
    intro w hw
    rcases List.mem_cons.mp hw with rfl | hw
    · exact h2 _ (List.mem_cons_self ..)
    · exact h1 w hw
theorem Inv.begin {N : Nat} {nb : Nat → List Nat} {live : Nat → Bool} {s u : Nat} {far : List Int} {q done : List Nat} (h : Inv N nb live s far (u :: q) done) : InI N nb live s u (dt far u + 1) [] far q done where
  len := h.len
  ge := h.ge
  du := rfl
  u0 := h.qin u (List.mem_cons_self ..)
  start := h.start
  zero := h.zero
  qin := fun v hv => h.qin v (List.mem_cons_of_mem _ hv)
  din := h.din
  all := fun v hv => by
    rcases h.all v hv with a | a
    · rcases List.mem_cons.mp a with a | a
      · exact .inr (.inl a)
      · exact .inl a
    · exact .inr (.inr a)
  closed := h.closed
  clu := by simp
  pred := h.pred
  sort := (List.pairwise_cons.mp h.sort).2
  max := fun v => h.max v u (List.mem_cons_self ..)
  lo := (List.pairwise_cons.mp h.sort).1
  nodup := by
    have := h.nodup
    rw [List.nodup_cons]
    rw [List.nodup_append] at this
    obtain ⟨h1, h2, h3⟩ := this
    rw [List.nodup_cons] at h2
    refine ⟨?_, List.nodup_append.mpr ⟨h1, h2.2, fun a ha b hb => h3 a ha b (List.mem_cons_of_mem _ hb)⟩⟩
    intro hm
    rcases List.mem_append.mp hm with hm | hm
    · exact h3 u hm u (List.mem_cons_self ..) rfl
    · exact h2.1 hm
  bd := fun v => by have := h.bd v; omega
  ubd := h.bd u
theorem InI.done {N : Nat} {nb : Nat → List Nat} {live : Nat → Bool} {s u : Nat} {d : Int} {seen far : List _} {q done : List Nat} (h : InI N nb live s u d seen far q done) (hs : ∀ v ∈ nb u, v ∈ seen) : Inv N nb live s far q (u :: done) where
  len := h.len
  ge := h.ge
  start := h.start
  zero := h.zero
  qin := h.qin
  din := fun v hv => by
    rcases List.mem_cons.mp hv with rfl | hv
    · exact h.u0
    · exact h.din v hv
  all := fun v hv => by
    rcases h.all v hv with a | a | a
    · exact .inl a
    · exact .inr (a ▸ List.mem_cons_self ..)
    · exact .inr (List.mem_cons_of_mem _ a)
  closed := fun x hx v hv hl => by
    rcases List.mem_cons.mp hx with rfl | hx
    · exact ⟨h.clu v (hs v hv) hl, by have := h.max v; have := h.du; omega⟩
    · exact h.closed x hx v hv hl
  pred := h.pred
  sort := h.sort
  max := fun v x hx => by have := h.max v; have := h.lo x hx; have := h.du; omega
  nodup := h.nodup
  bd := fun v => by have := h.bd v; rw [List.length_cons]; omega
theorem Inv.one {N : Nat} {nb : Nat → List Nat} {live : Nat → Bool} {s u : Nat} {far : List Int} {q done : List Nat} (hN : ∀ v ∈ nb u, v < N) (h : Inv N nb live s far (u :: q) done) :
    Inv N nb live s (one nb live u (far, q)).1 (one nb live u (far, q)).2 (u :: done) := by
  obtain ⟨s', h1, _, h3⟩ := InI.fold hN (nb u) [] (far, q) done (fun _ h => h) h.begin
  exact h3.done h1
theorem nodup_len : ∀ (N : Nat) (l : List Nat), l.Nodup → (∀ v ∈ l, v < N) → l.length ≤ N
  | 0, l, _, hl => by
    cases l with
    | nil => exact Nat.le_refl _
    | cons x xs => exact absurd (hl x (List.mem_cons_self ..)) (by omega)
  | N + 1, l, hn, hl => by
    have h1 := nodup_len N (l.erase N) (hn.erase N) (fun v hv => by
      have m := List.mem_of_mem_erase hv
      have a := hl v m
      have b : v ≠ N := by
        intro e
        subst e
        exact (List.Nodup.mem_erase_iff hn).mp hv |>.1 rfl
      omega)
    have h2 : l.length ≤ (l.erase N).length + 1 := by
      rw [List.length_erase]
      split <;> omega
    omega
theorem Inv.small {N : Nat} {nb : Nat → List Nat} {live : Nat → Bool} {s : Nat} {far : List Int} {q done : List Nat} (h : Inv N nb live s far q done) : done.length + q.length ≤ N := by
  have := nodup_len N (done ++ q) h.nodup (fun v hv => by
    rw [← h.len]
    rcases List.mem_append.mp hv with a | a
    · exact dt_lt (h.din v a)
    · exact dt_lt (h.qin v a))
  rwa [List.length_append] at this
theorem Inv.uN {N : Nat} {nb : Nat → List Nat} {live : Nat → Bool} {s u : Nat} {far : List Int} {q done : List Nat} (h : Inv N nb live s far (u :: q) done) : u < N := by
  rw [← h.len]; exact dt_lt (h.qin u (List.mem_cons_self ..))
def tab0 (N s : Nat) : List Int := (List.replicate N (-1)).set s 0
theorem inv0 {N : Nat} {nb : Nat → List Nat} {live : Nat → Bool} {s : Nat} (hs : s < N) : Inv N nb live s (tab0 N s) [s] [] := by
  have e : ∀ w, dt (tab0 N s) w = if w = s then 0 else -1 := by
    intro w
    unfold tab0
    rw [dt_set _ _ _ _ (by simpa using hs)]
    split
    · rfl
    · unfold dt
      rw [List.getD_eq_getElem?_getD, List.getElem?_replicate]
      split <;> rfl
  refine { len := by simp [tab0], ge := ?_, start := by rw [e, if_pos rfl], zero := ?_, qin := ?_, din := by simp, all := ?_, closed := by simp, pred := ?_, sort := by simp, max := ?_, nodup := by simp, bd := ?_ }
  · intro v; rw [e]; split <;> omega
  · intro v hv; rw [e] at hv; split at hv
    · assumption
    · omega
  · intro v hv; rw [List.mem_singleton.mp hv, e, if_pos rfl]; omega
  · intro v hv; rw [e] at hv; split at hv
    · rename_i q; exact .inl (List.mem_singleton.mpr q)
    · omega
  · intro v hv; rw [e] at hv; split at hv <;> omega
  · intro v x hx; rw [e, List.mem_singleton.mp hx, e, if_pos rfl]; split <;> omega
  · intro v; rw [e]; split <;> simp
/-- What the table says in the end. -/
structure Tab (N : Nat) (nb : Nat → List Nat) (live : Nat → Bool) (s : Nat) (far : List Int) : Prop where
  len : far.length = N
  ge : ∀ v, -1 ≤ dt far v
  start : dt far s = 0
  zero : ∀ v, dt far v = 0 → v = s
  step : ∀ u v, 0 ≤ dt far u → v ∈ nb u → live v = true → 0 ≤ dt far v ∧ dt far v ≤ dt far u + 1
  pred : ∀ v, 0 < dt far v → live v = true ∧ ∃ u, v ∈ nb u ∧ dt far u = dt far v - 1
  bd : ∀ v, dt far v ≤ (N : Int)
theorem Inv.tab {N : Nat} {nb : Nat → List Nat} {live : Nat → Bool} {s : Nat} {far : List Int} {done : List Nat} (h : Inv N nb live s far [] done) : Tab N nb live s far where
  len := h.len
  ge := h.ge
  start := h.start
  zero := h.zero
  step := fun u v hu hv hl => by
    rcases h.all u hu with a | a
    · cases a
    · exact h.closed u a v hv hl
  pred := h.pred
  bd := fun v => by have := h.bd v; have := h.small; simp only [List.length_nil] at this; omega
theorem run_tab {N : Nat} {nb : Nat → List Nat} {live : Nat → Bool} {s : Nat} (hN : ∀ u, u < N → ∀ v ∈ nb u, v < N) : ∀ (m : Nat) (far : List Int) (q done : List Nat), Inv N nb live s far q done → N ≤ m + done.length → Tab N nb live s (run nb live m (far, q))
  | 0, far, q, done, h, hm => by
    have hs := h.small
    have : q = [] := List.length_eq_zero_iff.mp (by omega)
    subst this
    exact h.tab
  | m + 1, far, [], done, h, hm => h.tab
  | m + 1, far, u :: q, done, h, hm => by
    unfold run
    exact run_tab hN m _ _ (u :: done) (h.one (hN u h.uN)) (by rw [List.length_cons]; omega)
/-- The table. -/
def tab (nb : Nat → List Nat) (live : Nat → Bool) (N s : Nat) : List Int := run nb live N (tab0 N s, [s])
theorem tab_tab {N : Nat} {nb : Nat → List Nat} {live : Nat → Bool} {s : Nat} (hN : ∀ u, u < N → ∀ v ∈ nb u, v < N) (hs : s < N) : Tab N nb live s (tab nb live N s) := run_tab hN N _ _ [] (inv0 hs) (by simp)
/-- A way of live nodes, each beside the one before. -/
inductive Way (nb : Nat → List Nat) (live : Nat → Bool) : Nat → Nat → Nat → Prop
  | nil (s : Nat) : Way nb live s s 0
  | snoc {s u v n : Nat} : Way nb live s u n → v ∈ nb u → live v = true → Way nb live s v (n + 1)
theorem Tab.way {N : Nat} {nb : Nat → List Nat} {live : Nat → Bool} {s : Nat} {far : List Int} (h : Tab N nb live s far) : ∀ (n : Nat) (v : Nat), dt far v = (n : Int) → Way nb live s v n
  | 0, v, hv => by rw [h.zero v hv]; exact .nil s
  | n + 1, v, hv => by
    obtain ⟨hl, u, hu, e⟩ := h.pred v (by omega)
    exact .snoc (h.way n u (by omega)) hu hl
theorem Tab.few {N : Nat} {nb : Nat → List Nat} {live : Nat → Bool} {s : Nat} {far : List Int} (h : Tab N nb live s far) {v n : Nat} (w : Way nb live s v n) : 0 ≤ dt far v ∧ dt far v ≤ (n : Int) := by
  induction w with
  | nil => rw [h.start]; omega
  | snoc w hv hl ih =>
    have := h.step _ _ ih.1 hv hl
    omega
/-- The table is told by the ways. -/
theorem Tab.iff {N : Nat} {nb : Nat → List Nat} {live : Nat → Bool} {s : Nat} {far : List Int} (h : Tab N nb live s far) (v : Nat) : 0 ≤ dt far v ↔ ∃ n, Way nb live s v n :=
  ⟨fun q => ⟨(dt far v).toNat, h.way _ v (by omega)⟩, fun ⟨n, w⟩ => (h.few w).1⟩
end Go.Proofs.Ytiacdekbleebjaa.Q
namespace Go.Proofs.Ytiacdekbleebjaa.FF
open Go.RowKit Go.Proofs.Ytiacdekbleebjaa.P Go.Proofs.Ytiacdekbleebjaa.B Go.Proofs.Ytiacdekbleebjaa.C Go.Proofs.Ytiacdekbleebjaa.L Go.Proofs.Ytiacdekbleebjaa.A Go.Proofs.Ytiacdekbleebjaa.O Go.Proofs.Ytiacdekbleebjaa.O2 Go.Proofs.Ytiacdekbleebjaa.O3 Go.Proofs.Ytiacdekbleebjaa.R Go.Proofs.Ytiacdekbleebjaa.RS Go.Proofs.Ytiacdekbleebjaa.D2 Go.Proofs.Ytiacdekbleebjaa.NX Go.Proofs.Ytiacdekbleebjaa.DE Go.Proofs.Ytiacdekbleebjaa.Q Go.Proofs.YtiacdekbleebjaaW.PrintWords Go.Proofs.YtiacdekbleebjaaW.PrintLast Go.Proofs.YtiacdekbleebjaaW.PrintMore
set_option linter.unusedVariables false
set_option linter.unusedSimpArgs false
def NN (W D : Int) : Nat := (cnt W D).toNat
theorem NN_cnt {W D : Int} (h : LK W D) : (NN W D : Int) = cnt W D := by have := cnt_bd h; unfold NN; omega
/-- The code with a number. -/
def co (W D : Int) (v : Nat) : ByteArray := txt (cod D W.toNat (v : Int))
theorem co_isC {W D : Int} (h : LK W D) (v : Nat) : isC W D (co W D v) = true := cod_isC h _
theorem co_digs {W D : Int} (h : LK W D) (v : Nat) : digs (co W D v) = cod D W.toNat (v : Int) := digs_txt (IsD.mono (cod_isD (by have := LK.d h; omega) _ _) (LK.d h).2)
theorem co_nu {W D : Int} (h : LK W D) {v : Nat} (hv : v < NN W D) : nu D (co W D v) = (v : Int) := nu_txt h (by omega) (by have := NN_cnt h; omega)
/-- The number of a code. -/
def no (D : Int) (s : ByteArray) : Nat := (nu D s).toNat
theorem no_nu {W D : Int} (h : LK W D) {s : ByteArray} (hs : isC W D s = true) : (no D s : Int) = nu D s := by have := nu_bd h hs; unfold no; omega
theorem no_lt {W D : Int} (h : LK W D) {s : ByteArray} (hs : isC W D s = true) : no D s < NN W D := by have := nu_bd h hs; have := no_nu h hs; have := NN_cnt h; omega
theorem co_no {W D : Int} (h : LK W D) {s : ByteArray} (hs : isC W D s = true) : co W D (no D s) = s := by unfold co; rw [no_nu h hs]; exact (nu_cod h hs).symm
theorem no_co {W D : Int} (h : LK W D) {v : Nat} (hv : v < NN W D) : no D (co W D v) = v := by unfold no; rw [co_nu h hv]; omega
theorem co_inj {W D : Int} (h : LK W D) {u v : Nat} (hu : u < NN W D) (hv : v < NN W D) (e : co W D u = co W D v) : u = v := by rw [← no_co h hu, ← no_co h hv, e]
theorem number_co {W D : Int} (h : LK W D) {v : Nat} (hv : v < NN W D) : Ev (fun k => impl_Lock_number.f k W D (co W D v)) (v : Int) := by
  have hc := co_isC h v
  have := number_ev W (LK.d h) (co W D v) (by have := isC_size hc; have := LK.w h; omega) (isC_isT hc)
  rw [show num D (digs (co W D v)) = (v : Int) from co_nu h hv] at this
  exact this
theorem whNumber_co {W D : Int} (h : LK W D) {v : Nat} (hv : v < NN W D) : Ev (fun k => spec_whNumber.f k W D (co W D v)) (v : Int) := by
  have hc := co_isC h v
  have := whNumber_ev W (LK.d h) (co W D v) (by have := isC_size hc; have := LK.w h; omega) (isC_isT hc)
  rw [show num D (digs (co W D v)) = (v : Int) from co_nu h hv] at this
  exact this
def nbZ (W D : Int) (v : Nat) : List Int := (List.range (2 * W.toNat)).map fun m => num D (tur D (m / 2) (trn m).f1 (cod D W.toNat (v : Int)))
def nbF (W D : Int) (v : Nat) : List Nat := (nbZ W D v).map Int.toNat
theorem rd_dt {far : List Int} {v : Nat} (h : v < far.length) : rd far (v : Int) = dt far v := by
  rw [rd_get far v h]; unfold dt; rw [List.getD_eq_getElem?_getD, List.getElem?_eq_getElem h]; rfl
theorem inI_small {N : Nat} {nb : Nat → List Nat} {live : Nat → Bool} {s u : Nat} {d : Int} {seen : List Nat} {far : List Int} {q done : List Nat} (h : InI N nb live s u d seen far q done) : done.length + q.length + 1 ≤ N := by
  have := nodup_len N (u :: (done ++ q)) h.nodup (fun v hv => by
    rw [← h.len]
    rcases List.mem_cons.mp hv with rfl | hv
    · exact dt_lt h.u0
    · rcases List.mem_append.mp hv with a | a
      · exact dt_lt (h.din v a)
      · exact dt_lt (h.qin v a))
  rw [List.length_cons, List.length_append] at this
  omega
theorem inI_d {N : Nat} {nb : Nat → List Nat} {live : Nat → Bool} {s u : Nat} {d : Int} {seen : List Nat} {far : List Int} {q done : List Nat} (h : InI N nb live s u d seen far q done) : 1 ≤ d ∧ d ≤ (N : Int) := by
  have h1 := h.du
  have h2 := h.u0
  have h3 := h.ubd
  have h4 := inI_small h
  omega
end Go.Proofs.Ytiacdekbleebjaa.FF
namespace Go.Proofs.Ytiacdekbleebjaa.FS
open Go.RowKit Go.Proofs.Ytiacdekbleebjaa.P Go.Proofs.Ytiacdekbleebjaa.B Go.Proofs.Ytiacdekbleebjaa.C Go.Proofs.Ytiacdekbleebjaa.L Go.Proofs.Ytiacdekbleebjaa.A Go.Proofs.Ytiacdekbleebjaa.O Go.Proofs.Ytiacdekbleebjaa.O2 Go.Proofs.Ytiacdekbleebjaa.O3 Go.Proofs.Ytiacdekbleebjaa.R Go.Proofs.Ytiacdekbleebjaa.RS Go.Proofs.Ytiacdekbleebjaa.D2 Go.Proofs.Ytiacdekbleebjaa.NX Go.Proofs.Ytiacdekbleebjaa.DE Go.Proofs.Ytiacdekbleebjaa.Q Go.Proofs.Ytiacdekbleebjaa.FF Go.Proofs.YtiacdekbleebjaaW.PrintWords Go.Proofs.YtiacdekbleebjaaW.PrintLast Go.Proofs.YtiacdekbleebjaaW.PrintMore
set_option linter.unusedVariables false
set_option linter.unusedSimpArgs false
/-- Live numbers by a list of dead codes. -/
def liv (W D : Int) (l : List ByteArray) (v : Nat) : Bool := if v < NN W D then !hasS l (co W D v) else true
def mnW (x : Int) : Int := if x < 1000000000000001 then x else 1000000000000001
/-- One neighbour: the table, the ways, the queue. -/
def vwd (live : Nat → Bool) (u : Nat) (d : Int) (s : List Int × List Int × List Nat) (v : Nat) : List Int × List Int × List Nat :=
  if live v = true then ((vis live d (s.1, s.2.2) v).1, if dt (vis live d (s.1, s.2.2) v).1 v = d then s.2.1.set v (mnW (rd s.2.1 (v : Int) + rd s.2.1 (u : Int))) else s.2.1, (vis live d (s.1, s.2.2) v).2) else s
/-- The ways are numbers, none too great. -/
def WB (N : Nat) (ways : List Int) : Prop := ways.length = N ∧ ∀ v, v < N → 0 ≤ rd ways (v : Int) ∧ rd ways (v : Int) ≤ 1000000000000001
theorem rd_set (l : List Int) (v : Nat) (x : Int) (w : Nat) (h : v < l.length) : rd (l.set v x) (w : Int) = if w = v then x else rd l (w : Int) := by
  unfold rd
  rw [Int.toNat_natCast, List.getD_eq_getElem?_getD, List.getD_eq_getElem?_getD, List.getElem?_set]
  by_cases e : v = w
  · subst e; simp [h]
  · rw [if_neg e, if_neg (fun q => e q.symm)]
theorem WB.set {N : Nat} {ways : List Int} (h : WB N ways) {v u : Nat} (hv : v < N) (hu : u < N) : WB N (ways.set v (mnW (rd ways (v : Int) + rd ways (u : Int)))) := by
  refine ⟨by rw [List.length_set]; exact h.1, fun w hw => ?_⟩
  rw [rd_set _ _ _ _ (by rw [h.1]; exact hv)]
  have a := h.2 v hv
  have b := h.2 u hu
  have c := h.2 w hw
  split
  · unfold mnW; split <;> omega
  · exact c
theorem WB.vwd {N : Nat} {live : Nat → Bool} {u : Nat} {d : Int} {s : List Int × List Int × List Nat} (h : WB N s.2.1) {v : Nat} (hv : v < N) (hu : u < N) : WB N (vwd live u d s v).2.1 := by
  unfold FS.vwd
  split
  · show WB N (if _ then _ else _)
    split
    · exact h.set hv hu
    · exact h
  · exact h
theorem WB.fold {N : Nat} {live : Nat → Bool} {u : Nat} {d : Int} (hu : u < N) : ∀ (l : List Nat) (hl : ∀ v ∈ l, v < N) (s : List Int × List Int × List Nat), WB N s.2.1 → WB N (l.foldl (FS.vwd live u d) s).2.1
  | [], _, s, h => h
  | v :: l, hl, s, h => WB.fold hu l (fun w hw => hl w (List.mem_cons_of_mem _ hw)) _ (h.vwd (hl v (List.mem_cons_self ..)) hu)
def cds (W D : Int) (P : List Nat) (u : Nat) (q : List Nat) : List ByteArray := (P ++ u :: q).map (co W D)
theorem cds_len (W D : Int) (P : List Nat) (u : Nat) (q : List Nat) : (cds W D P u q).length = P.length + (q.length + 1) := by simp [cds]
theorem cds_at (W D : Int) (P : List Nat) (u : Nat) (q : List Nat) : rdOf ByteArray.empty (cds W D P u q) (P.length : Int) = co W D u := by
  rw [rd_gt, gt_get _ (by rw [cds_len]; omega)]
  unfold cds
  rw [List.getElem_map, List.getElem_append_right (Nat.le_refl _)]
  simp
theorem cds_snoc (W D : Int) (P : List Nat) (u : Nat) (q : List Nat) (v : Nat) : cds W D P u (q ++ [v]) = cds W D P u q ++ [co W D v] := by simp [cds]
end Go.Proofs.Ytiacdekbleebjaa.FS
namespace Go.Proofs.Ytiacdekbleebjaa.GE
open Go.RowKit Go.Proofs.Ytiacdekbleebjaa.P Go.Proofs.Ytiacdekbleebjaa.B Go.Proofs.Ytiacdekbleebjaa.C Go.Proofs.Ytiacdekbleebjaa.L Go.Proofs.Ytiacdekbleebjaa.A Go.Proofs.Ytiacdekbleebjaa.O Go.Proofs.Ytiacdekbleebjaa.O2 Go.Proofs.Ytiacdekbleebjaa.R Go.Proofs.Ytiacdekbleebjaa.RS Go.Proofs.YtiacdekbleebjaaW.PrintWords Go.Proofs.YtiacdekbleebjaaW.PrintLast Go.Proofs.YtiacdekbleebjaaW.PrintMore
set_option linter.unusedVariables false
set_option linter.unusedSimpArgs false
def kn (ks : List (List Int)) (i : Nat) : List Int := ks.getD i []
theorem rd_kn (ks : List (List Int)) (i : Nat) : rd_L1 ks (i : Int) = kn ks i := by unfold rd_L1 kn; rw [Int.toNat_natCast]
theorem kn_get (ks : List (List Int)) {i : Nat} (h : i < ks.length) : kn ks i = ks[i] := by unfold kn; rw [List.getD_eq_getElem?_getD, List.getElem?_eq_getElem h]; rfl
def inD (D : Int) (x : Int) : Bool := decide (0 ≤ x ∧ x ≤ D - 1)
def knobB (W D : Int) (k : List Int) : Bool := decide ((k.length : Int) = W) && k.all (inD D)
def gearB (W D : Int) (ks : List (List Int)) : Bool := decide (RK W D) && (decide (1 ≤ ks.length ∧ ks.length ≤ 5) && ks.all (knobB W D))
theorem gear_rk {W D : Int} {ks : List (List Int)} (h : gearB W D ks = true) : RK W D ∧ (1 ≤ ks.length ∧ ks.length ≤ 5) ∧ ∀ k ∈ ks, (k.length : Int) = W ∧ IsD D k := by
  unfold gearB at h
  rw [Bool.and_eq_true, Bool.and_eq_true, decide_eq_true_eq, decide_eq_true_eq, List.all_eq_true] at h
  refine ⟨h.1, h.2.1, fun k hk => ?_⟩
  have := h.2.2 k hk
  unfold knobB at this
  rw [Bool.and_eq_true, decide_eq_true_eq, List.all_eq_true] at this
  refine ⟨this.1, fun x hx => ?_⟩
  have := this.2 x hx
  unfold inD at this
  rw [decide_eq_true_eq] at this
  omega
/-- The same, where there may be no knobs. -/
def gearW (W D : Int) (ks : List (List Int)) : Prop := RK W D ∧ ks.length ≤ 5 ∧ ∀ k ∈ ks, (k.length : Int) = W ∧ IsD D k
theorem gear_wk {W D : Int} {ks : List (List Int)} (h : gearW W D ks) : RK W D ∧ ks.length ≤ 5 ∧ ∀ k ∈ ks, (k.length : Int) = W ∧ IsD D k := h
theorem gear_w {W D : Int} {ks : List (List Int)} (h : gearB W D ks = true) : gearW W D ks := ⟨(gear_rk h).1, (gear_rk h).2.1.2, (gear_rk h).2.2⟩
theorem gear_drop {W D : Int} {ks : List (List Int)} (h : gearW W D ks) (j : Nat) : gearW W D (ks.drop j) := ⟨h.1, by have := h.2.1; rw [List.length_drop]; omega, fun k hk => h.2.2 k (List.mem_of_mem_drop hk)⟩
theorem kn_at {W D : Int} {ks : List (List Int)} (h : gearW W D ks) {i : Nat} (hi : i < ks.length) : ((kn ks i).length : Int) = W ∧ IsD D (kn ks i) := by
  rw [kn_get ks hi]; exact (gear_wk h).2.2 _ (List.getElem_mem hi)
theorem drop_all' {α : Type} (p : α → Bool) (l : List α) {j : Nat} (h : j < l.length) : (l.drop j).all p = (p l[j] && (l.drop (j + 1)).all p) := by
  rw [List.drop_eq_getElem_cons h, List.all_cons]
theorem l1All_ev (l : List Int) (D : Int) (hD : 2 ≤ D ∧ D ≤ 10) (hl : l.length ≤ 1000000000000) : Ev (fun k => spec_l1All.f k l 0 (wrap64 (D - 1))) (l.all (inD D)) := by
  unfold spec_l1All.f
  rw [w64 (x := D - 1) (by omega) (by omega)]
  have key := ev_down (g := fun j k => spec_l1All.l0 k 0 (D - 1) l (l.length : Int) (j : Int)) (R := fun j => (l.drop j).all (inD D)) l.length ?_ ?_
  · simpa using key
  · intro j hj ih
    refine Ev.succ ?_
    simp only [spec_l1All.l0, if_pos (show (j : Int) < (l.length : Int) by omega), if_pos (show (0 : Int) ≤ (j : Int) by omega), rd_get l j hj, l1In_eq, Option.bind_some, w64 (x := (j : Int) + 1) (by omega) (by omega)]
    rw [drop_all' _ _ hj]
    by_cases q : inD D l[j] = true
    · have q' : decide (0 ≤ l[j] ∧ l[j] ≤ D - 1) = true := q
      simp only [q', if_true, q, Bool.true_and]; exact ih
    · have q' : decide (0 ≤ l[j] ∧ l[j] ≤ D - 1) = false := Bool.eq_false_iff.mpr q
      simp only [q', Bool.false_eq_true, if_false, Bool.eq_false_iff.mpr q, Bool.false_and]; exact Ev.now _
  · refine Ev.succ ?_
    simp only [spec_l1All.l0, if_neg (show ¬ ((l.length : Nat) : Int) < (l.length : Int) by omega)]
    rw [List.drop_length]; exact Ev.now _
theorem joKnob_ev {W D : Int} (h : LK W D) (k : List Int) : Ev (fun n => spec_joKnob.f n W D k) (knobB W D k) := by
  unfold spec_joKnob.f knobB
  by_cases q : (k.length : Int) = W
  · simp only [if_pos q, decide_eq_true q, Bool.true_and]
    exact Ev.bind (l1All_ev k D (LK.d h) (by have := LK.w h; omega)) (Ev.now _)
  · simp only [if_neg q, decide_eq_false q, Bool.false_and]; exact Ev.now _
theorem joGood_ev (W D : Int) (ks : List (List Int)) (hk : ks.length ≤ 9223372036854775807) : Ev (fun k => spec_joGood.f k W D ks) (gearB W D ks) := by
  unfold spec_joGood.f gearB
  by_cases h : LK W D
  · simp only [whGood_eq, Option.bind_some, decide_eq_true h, if_true]
    refine Ev.bind (whCount_ev h) ?_
    by_cases c : cnt W D > 1000
    · simp only [if_pos c]
      rw [show decide (RK W D) = false by rw [decide_eq_false_iff_not]; unfold RK; omega, Bool.false_and]
      refine Ev.succ ?_
      simp only [spec_joGood.j0, if_true]; exact Ev.now _
    · have hr : RK W D := ⟨h, by omega⟩
      simp only [if_neg c, l1In_eq, Option.bind_some]
      rw [decide_eq_true hr, Bool.true_and]
      refine Ev.succ ?_
      by_cases n : 1 ≤ (ks.length : Int) ∧ (ks.length : Int) ≤ 5
      · simp only [spec_joGood.j0, decide_eq_true n, Bool.not_true, Bool.false_eq_true, if_false]
        rw [decide_eq_true (show 1 ≤ ks.length ∧ ks.length ≤ 5 by omega), Bool.true_and]
        have key := ev_down (g := fun j k => spec_joGood.l0 k ks (ks.length : Int) (j : Int) W D ks) (R := fun j => (ks.drop j).all (knobB W D)) ks.length ?_ ?_
        · simpa using key
        · intro j hj ih
          refine Ev.succ ?_
          simp only [spec_joGood.l0, if_pos (show (j : Int) < (ks.length : Int) by omega), if_pos (show (0 : Int) ≤ (j : Int) by omega), rd_kn, kn_get ks hj, w64 (x := (j : Int) + 1) (by omega) (by omega)]
          refine Ev.bind (joKnob_ev h ks[j]) ?_
          rw [drop_all' _ _ hj]
          by_cases q : knobB W D ks[j] = true
          · simp only [q, if_true, Bool.true_and]; exact ih
          · simp only [Bool.eq_false_iff.mpr q, Bool.false_eq_true, if_false, Bool.false_and]; exact Ev.now _
        · refine Ev.succ ?_
          simp only [spec_joGood.l0, if_neg (show ¬ ((ks.length : Nat) : Int) < (ks.length : Int) by omega)]
          rw [List.drop_length]; exact Ev.now _
      · simp only [spec_joGood.j0, decide_eq_false n, Bool.not_false, if_true]
        rw [decide_eq_false (show ¬ (1 ≤ ks.length ∧ ks.length ≤ 5) by omega), Bool.false_and]; exact Ev.now _
  · simp only [whGood_eq, Option.bind_some, decide_eq_false h, Bool.false_eq_true, if_false]
    rw [show decide (RK W D) = false by rw [decide_eq_false_iff_not]; unfold RK; simp [h], Bool.false_and]
    refine Ev.succ ?_
    simp only [spec_joGood.j0, if_true]; exact Ev.now _
theorem areGears_ev (W D : Int) (ks : List (List Int)) (hk : ks.length ≤ 9223372036854775807) : Ev (fun k => impl_AreGears.f k W D ks) (gearB W D ks) := by
  unfold impl_AreGears.f gearB
  refine Ev.bind (isSmall_ev W D 1000) ?_
  by_cases h : RK W D
  · have h' : LK W D ∧ cnt W D ≤ 1000 := h
    have d := LK.d h.1
    simp only [decide_eq_true h', if_true, decide_eq_true h, Bool.true_and, within_eq, Option.bind_some]
    refine Ev.succ ?_
    by_cases n : 1 ≤ (ks.length : Int) ∧ (ks.length : Int) ≤ 5
    · simp only [impl_AreGears.j0, decide_eq_true n, Bool.not_true, Bool.false_eq_true, if_false]
      rw [decide_eq_true (show 1 ≤ ks.length ∧ ks.length ≤ 5 by omega), Bool.true_and]
      have key := ev_down (g := fun j k => impl_AreGears.l0 k ks (ks.length : Int) (j : Int) W D ks) (R := fun j => (ks.drop j).all (knobB W D)) ks.length ?_ ?_
      · simpa using key
      · intro j hj ih
        refine Ev.succ ?_
        simp only [impl_AreGears.l0, if_pos (show (j : Int) < (ks.length : Int) by omega), if_pos (show (0 : Int) ≤ (j : Int) by omega), rd_kn, kn_get ks hj]
        rw [drop_all' _ _ hj]
        by_cases q : ((ks[j].length : Nat) : Int) = W
        · simp only [if_pos q]
          have e : knobB W D ks[j] = ks[j].all (inD D) := by unfold knobB; rw [decide_eq_true q, Bool.true_and]
          rw [e]
          have hw := LK.w h.1
          have key2 := ev_down (g := fun i k => impl_AreGears.l1 k ks (ks.length : Int) (j : Int) ks[j] (ks[j].length : Int) (i : Int) W D ks) (R := fun i => (ks[j].drop i).all (inD D) && (ks.drop (j + 1)).all (knobB W D)) ks[j].length ?_ ?_
          · simpa using key2
          · intro i hi ih2
            refine Ev.succ ?_
            simp only [impl_AreGears.l1, if_pos (show (i : Int) < (ks[j].length : Int) by omega), if_pos (show (0 : Int) ≤ (i : Int) by omega), rd_get ks[j] i hi, w64 (x := D - 1) (by omega) (by omega), within_eq, Option.bind_some, w64 (x := (i : Int) + 1) (by omega) (by omega)]
            rw [drop_all' _ _ hi]
            by_cases y : inD D ks[j][i] = true
            · have y' : decide (0 ≤ ks[j][i] ∧ ks[j][i] ≤ D - 1) = true := y
              simp only [y', if_true, y, Bool.true_and]; exact ih2
            · have y' : decide (0 ≤ ks[j][i] ∧ ks[j][i] ≤ D - 1) = false := Bool.eq_false_iff.mpr y
              simp only [y', Bool.false_eq_true, if_false, Bool.eq_false_iff.mpr y, Bool.false_and]; exact Ev.now _
          · refine Ev.succ ?_
            simp only [impl_AreGears.l1, if_neg (show ¬ ((ks[j].length : Nat) : Int) < (ks[j].length : Int) by omega), w64 (x := (j : Int) + 1) (by omega) (by omega)]
            rw [List.drop_length]
            exact ih
        · simp only [if_neg q]
          have e : knobB W D ks[j] = false := by unfold knobB; rw [decide_eq_false q, Bool.false_and]
          rw [e, Bool.false_and]; exact Ev.now _
      · refine Ev.succ ?_
        simp only [impl_AreGears.l0, if_neg (show ¬ ((ks.length : Nat) : Int) < (ks.length : Int) by omega)]
        rw [List.drop_length]; exact Ev.now _
    · simp only [impl_AreGears.j0, decide_eq_false n, Bool.not_false, if_true]
      rw [decide_eq_false (show ¬ (1 ≤ ks.length ∧ ks.length ≤ 5) by omega), Bool.false_and]; exact Ev.now _
  · have h' : ¬ (LK W D ∧ cnt W D ≤ 1000) := h
    simp only [decide_eq_false h', Bool.false_eq_true, if_false, decide_eq_false h, Bool.false_and]
    refine Ev.succ ?_
    simp only [impl_AreGears.j0, if_true]; exact Ev.now _
/-- The digits behind so many turns of a knob. -/
def kt (D : Int) (k : List Int) (t : Int) (a : List Int) : List Int := List.zipWith (fun x y => (x + t * y) % D) a k
theorem kt_len {D : Int} {k a : List Int} (h : k.length = a.length) (t : Int) : (kt D k t a).length = a.length := by unfold kt; rw [List.length_zipWith]; omega
theorem kt_isD {D : Int} (hD : 0 < D) (k : List Int) (t : Int) (a : List Int) : IsD D (kt D k t a) := by
  intro x hx
  unfold kt at hx
  obtain ⟨i, hi, e⟩ := List.mem_iff_getElem.mp hx
  rw [List.getElem_zipWith] at e
  rw [← e]
  exact ⟨Int.emod_nonneg _ (by omega), Int.emod_lt_of_pos _ hD⟩
theorem kt_get {D : Int} {k a : List Int} {t : Int} {j : Nat} (h : j < (kt D k t a).length) : (kt D k t a)[j] = (a[j]'(by unfold kt at h; rw [List.length_zipWith] at h; omega) + t * k[j]'(by unfold kt at h; rw [List.length_zipWith] at h; omega)) % D := by
  have h2 : j < (List.zipWith (fun x y => (x + t * y) % D) a k).length := h
  exact (List.getElem_of_eq (show kt D k t a = List.zipWith (fun x y => (x + t * y) % D) a k from rfl) h).trans (List.getElem_zipWith (h := h2))
theorem step_set (P a : List Int) (hl : P.length = a.length) {j : Nat} (hj : j < a.length) : (P.take j ++ a.drop j).set j (P[j]'(by omega)) = P.take (j + 1) ++ a.drop (j + 1) := by
  have lt : (P.take j).length = j := by rw [List.length_take]; omega
  rw [List.set_append_right _ _ (by omega), lt, Nat.sub_self, List.drop_eq_getElem_cons hj, List.set_cons_zero, List.take_succ_eq_append_getElem (by omega), List.append_assoc]
  rfl
theorem mid_get (P a : List Int) (hl : P.length = a.length) {j : Nat} (hj : j < a.length) : (P.take j ++ a.drop j)[j]'(by rw [List.length_append, List.length_take, List.length_drop]; omega) = a[j] := by
  have lt : (P.take j).length = j := by rw [List.length_take]; omega
  rw [List.getElem_append_right (by omega)]
  simp only [lt, Nat.sub_self, List.getElem_drop, Nat.add_zero]
theorem mid_len (P a : List Int) (hl : P.length = a.length) {j : Nat} (hj : j ≤ a.length) : (P.take j ++ a.drop j).length = a.length := by rw [List.length_append, List.length_take, List.length_drop]; omega
theorem knobTurned_ev {W D : Int} {ks : List (List Int)} (h : gearW W D ks) {a : List Int} (ha : IsD D a) (hl : (a.length : Int) = W) {i : Nat} (hi : i < ks.length) {t : Int} (ht : -1000 ≤ t ∧ t ≤ 1000) :
    Ev (fun k => impl_Gears_turned.f k W D ks (txt a) (i : Int) t) (txt (kt D (kn ks i) t a)) := by
  obtain ⟨⟨hr, hc⟩, hn, _⟩ := gear_wk h
  obtain ⟨kl, kd⟩ := kn_at h hi
  have d := LK.d hr
  have hw := LK.w hr
  unfold impl_Gears_turned.f
  refine Ev.bind (digits_ev _ (by rw [txt_size]; omega)) ?_
  rw [digs_txt (IsD.mono ha d.2)]
  simp only [if_pos (show (0 : Int) ≤ (i : Int) by omega), if_pos (show (i : Int) < (ks.length : Int) by omega), rd_kn]
  have pl : (kt D (kn ks i) t a).length = a.length := kt_len (by omega) t
  refine ev_loop (g := fun j k => impl_Gears_turned.l0 k t ((kt D (kn ks i) t a).take j ++ a.drop j) (kn ks i) ((kn ks i).length : Int) (j : Int) W D ks) (kn ks i).length ?_ ?_
  · intro j hj ih
    have hja : j < a.length := by omega
    have ml := mid_len (kt D (kn ks i) t a) a pl (j := j) (by omega)
    have mg := mid_get (kt D (kn ks i) t a) a pl hja
    have xa := IsD.get ha hja
    have xk := IsD.get kd hj
    have b : -10000 ≤ (kn ks i)[j] * t ∧ (kn ks i)[j] * t ≤ 10000 := by
      have h1 : (kn ks i)[j] * t ≤ (kn ks i)[j] * 1000 := Int.mul_le_mul_of_nonneg_left ht.2 xk.1
      have h2 : (kn ks i)[j] * -1000 ≤ (kn ks i)[j] * t := Int.mul_le_mul_of_nonneg_left ht.1 xk.1
      omega
    rw [← step_set (kt D (kn ks i) t a) a pl hja, kt_get] at ih
    refine Ev.succ ?_
    simp only [impl_Gears_turned.l0, if_pos (show (j : Int) < ((kn ks i).length : Int) by omega), if_pos (show (0 : Int) ≤ (j : Int) by omega), ml, if_pos (show (j : Int) < (a.length : Int) by omega), rd_get _ j (show j < ((kt D (kn ks i) t a).take j ++ a.drop j).length by omega), mg, rd_get (kn ks i) j hj, w64 (x := (kn ks i)[j] * t) (by omega) (by omega), w64 (x := a[j] + (kn ks i)[j] * t) (by omega) (by omega), around_eq (D := D) (by omega), Option.bind_some, Int.toNat_natCast, w64 (x := (j : Int) + 1) (by omega) (by omega)]
    rw [Int.mul_comm (kn ks i)[j] t]
    exact ih
  · refine Ev.succ ?_
    simp only [impl_Gears_turned.l0, if_neg (show ¬ (((kn ks i).length : Nat) : Int) < ((kn ks i).length : Int) by omega)]
    rw [show (kn ks i).length = a.length by omega, List.take_of_length_le (by omega), List.drop_length, List.append_nil]
    exact Ev.bind (text_ev _ (by omega) (IsD.mono (kt_isD (by omega) _ _ _) d.2)) (Ev.now _)
theorem joTurn_ev {W D : Int} {ks : List (List Int)} (h : gearW W D ks) {a : List Int} (ha : IsD D a) (hl : (a.length : Int) = W) {i : Nat} (hi : i < ks.length) {t : Int} (ht : -1000 ≤ t ∧ t ≤ 1000) :
    Ev (fun k => spec_joTurn.f k W D ks (txt a) (i : Int) t) (txt (kt D (kn ks i) t a)) := by
  obtain ⟨⟨hr, hc⟩, hn, _⟩ := gear_wk h
  obtain ⟨kl, kd⟩ := kn_at h hi
  have d := LK.d hr
  have hw := LK.w hr
  unfold spec_joTurn.f
  simp only [if_pos (show (0 : Int) ≤ (i : Int) by omega), if_pos (show (i : Int) < (ks.length : Int) by omega), rd_kn]
  refine Ev.bind (whText_ev (kn ks i) (by omega) (IsD.mono kd d.2)) ?_
  refine Ev.bind (a := txt (kt D (kn ks i) t a)) ?_ (Ev.now _)
  unfold spec_whAdd.f
  refine Ev.bind (whDigits_ev _ (by rw [txt_size]; omega)) (Ev.bind (whDigits_ev _ (by rw [txt_size]; omega)) ?_)
  rw [digs_txt (IsD.mono ha d.2), digs_txt (IsD.mono kd d.2)]
  have pl : (kt D (kn ks i) t a).length = a.length := kt_len (by omega) t
  refine ev_loop (g := fun j k => spec_whAdd.l0 k t ((kt D (kn ks i) t a).take j ++ a.drop j) (kn ks i) (a.length : Int) (j : Int) W D) a.length ?_ ?_
  · intro j hja ih
    have hj : j < (kn ks i).length := by omega
    have ml := mid_len (kt D (kn ks i) t a) a pl (j := j) (by omega)
    have mg := mid_get (kt D (kn ks i) t a) a pl hja
    have xa := IsD.get ha hja
    have xk := IsD.get kd hj
    have b : -10000 ≤ t * (kn ks i)[j] ∧ t * (kn ks i)[j] ≤ 10000 := by
      have h1 : (kn ks i)[j] * t ≤ (kn ks i)[j] * 1000 := Int.mul_le_mul_of_nonneg_left ht.2 xk.1
      have h2 : (kn ks i)[j] * -1000 ≤ (kn ks i)[j] * t := Int.mul_le_mul_of_nonneg_left ht.1 xk.1
      rw [Int.mul_comm t]; omega
    rw [← step_set (kt D (kn ks i) t a) a pl hja, kt_get] at ih
    refine Ev.succ ?_
    simp only [spec_whAdd.l0, if_pos (show (j : Int) < (a.length : Int) by omega), if_pos (show (0 : Int) ≤ (j : Int) by omega), ml, if_pos (show (j : Int) < ((kn ks i).length : Int) by omega), rd_get _ j (show j < ((kt D (kn ks i) t a).take j ++ a.drop j).length by omega), mg, rd_get (kn ks i) j hj, w64 (x := t * (kn ks i)[j]) (by omega) (by omega), w64 (x := a[j] + t * (kn ks i)[j]) (by omega) (by omega), l1Mod_eq (D := D) (by omega), Option.bind_some, Int.toNat_natCast, w64 (x := (j : Int) + 1) (by omega) (by omega)]
    exact ih
  · refine Ev.succ ?_
    simp only [spec_whAdd.l0, if_neg (show ¬ ((a.length : Nat) : Int) < (a.length : Int) by omega)]
    rw [List.take_of_length_le (by omega), List.drop_length, List.append_nil]
    exact Ev.bind (whText_ev _ (by omega) (IsD.mono (kt_isD (by omega) _ _ _) d.2)) (Ev.now _)
end Go.Proofs.Ytiacdekbleebjaa.GE
namespace Go.Proofs.Ytiacdekbleebjaa.GF
open Go.RowKit Go.Proofs.Ytiacdekbleebjaa.P Go.Proofs.Ytiacdekbleebjaa.B Go.Proofs.Ytiacdekbleebjaa.C Go.Proofs.Ytiacdekbleebjaa.L Go.Proofs.Ytiacdekbleebjaa.A Go.Proofs.Ytiacdekbleebjaa.O Go.Proofs.Ytiacdekbleebjaa.O2 Go.Proofs.Ytiacdekbleebjaa.O3 Go.Proofs.Ytiacdekbleebjaa.R Go.Proofs.Ytiacdekbleebjaa.RS Go.Proofs.Ytiacdekbleebjaa.D2 Go.Proofs.Ytiacdekbleebjaa.NX Go.Proofs.Ytiacdekbleebjaa.DE Go.Proofs.Ytiacdekbleebjaa.GE Go.Proofs.Ytiacdekbleebjaa.Q Go.Proofs.Ytiacdekbleebjaa.FF Go.Proofs.Ytiacdekbleebjaa.FS Go.Proofs.YtiacdekbleebjaaW.PrintWords Go.Proofs.YtiacdekbleebjaaW.PrintLast Go.Proofs.YtiacdekbleebjaaW.PrintMore
set_option linter.unusedVariables false
set_option linter.unusedSimpArgs false
def ktn (W D : Int) (ks : List (List Int)) (v m : Nat) : List Int := kt D (kn ks (m / 2)) (trn m).f1 (cod D W.toNat (v : Int))
def nbK (W D : Int) (ks : List (List Int)) (v : Nat) : List Nat := (List.range (2 * ks.length)).map fun m => (num D (ktn W D ks v m)).toNat
theorem nbK_len (W D : Int) (ks : List (List Int)) (v : Nat) : (nbK W D ks v).length = 2 * ks.length := by simp [nbK]
theorem nbK_at (W D : Int) (ks : List (List Int)) (v : Nat) {m : Nat} (hm : m < (nbK W D ks v).length) : (nbK W D ks v)[m] = (num D (ktn W D ks v m)).toNat :=
  (List.getElem_of_eq (show nbK W D ks v = (List.range (2 * ks.length)).map fun m => (num D (ktn W D ks v m)).toNat from rfl) hm).trans (by rw [List.getElem_map, List.getElem_range])
theorem ktn_ok {W D : Int} {ks : List (List Int)} (h : gearW W D ks) (v : Nat) {m : Nat} (hm : m < 2 * ks.length) : IsD D (ktn W D ks v m) ∧ (ktn W D ks v m).length = W.toNat ∧ 0 ≤ num D (ktn W D ks v m) ∧ num D (ktn W D ks v m) < (NN W D : Int) := by
  obtain ⟨hr, hn, _⟩ := gear_wk h
  have dd := LK.d hr.1
  have hw := LK.w hr.1
  obtain ⟨kl, kd⟩ := kn_at h (i := m / 2) (by omega)
  have i := kt_isD (D := D) (by omega) (kn ks (m / 2)) (trn m).f1 (cod D W.toNat (v : Int))
  have l : (ktn W D ks v m).length = W.toNat := by unfold ktn; rw [kt_len (by rw [cod_len]; omega), cod_len]
  have b := num_bd (D := D) (by omega) _ i
  have hc := NN_cnt hr.1
  have e : cnt W D = D ^ W.toNat := rfl
  refine ⟨i, l, b.1, ?_⟩
  have b2 := b.2
  unfold ktn at l ⊢
  rw [l] at b2
  omega
theorem nbK_lt {W D : Int} {ks : List (List Int)} (h : gearW W D ks) (v : Nat) : ∀ x ∈ nbK W D ks v, x < NN W D := by
  intro x hx
  obtain ⟨m, hm, e⟩ := List.mem_iff_getElem.mp hx
  have := ktn_ok h v (m := m) (by rw [nbK_len] at hm; exact hm)
  rw [nbK_at] at e
  omega
theorem nbK_co {W D : Int} {ks : List (List Int)} (h : gearW W D ks) (v : Nat) {m : Nat} (hm : m < (nbK W D ks v).length) : co W D (nbK W D ks v)[m] = txt (ktn W D ks v m) := by
  obtain ⟨hr, hn, _⟩ := gear_wk h
  have dd := LK.d hr.1
  obtain ⟨i, l, b, _⟩ := ktn_ok h v (m := m) (by rw [nbK_len] at hm; exact hm)
  have e := cod_num (D := D) (by omega) _ i
  rw [l] at e
  show txt (cod D W.toNat ((nbK W D ks v)[m] : Int)) = _
  rw [nbK_at, Int.toNat_of_nonneg b, e]
def al (_ : Nat) : Bool := true
theorem trn_at {w j : Nat} (h : j < 2 * w) : rd_T48 (trns w) (j : Int) = trn j := by
  unfold rd_T48
  rw [Int.toNat_natCast, List.getD_eq_getElem?_getD, List.getElem?_eq_getElem (by simpa [trns] using h)]
  simp [trns]
theorem turns5_ev {w : Nat} (h : w ≤ 6) : Ev (fun k => impl_turns.f k (w : Int)) (trns w) := turns_ev h
theorem ginner {W D : Int} {ks : List (List Int)} (h : gearW W D ks) {s u : Nat} {far : List Int} {q done : List Nat} {d : Int} (hi : InI (NN W D) (nbK W D ks) al s u d [] far q done) (r : List Int)
    (hfin : Ev (fun k => impl_Gears_far.l0 k ((nbK W D ks u).foldl (vis al d) (far, q)).1 (((nbK W D ks u).foldl (vis al d) (far, q)).2.map (co W D)) W D ks) r) :
    Ev (fun k => impl_Gears_far.l1 k far ((u :: q).map (co W D)) (d - 1) (trns ks.length) ((trns ks.length).length : Int) 0 W D ks) r := by
  obtain ⟨hr, hn, _⟩ := gear_wk h
  have hk := hr.1
  have cb := cnt_bd hk
  have hc := NN_cnt hk
  have lf := nbK_len W D ks u
  have dd := LK.d hk
  have hw := LK.w hk
  have tl : (trns ks.length).length = 2 * ks.length := by simp [trns]
  refine ev_loop (g := fun j k => impl_Gears_far.l1 k (((nbK W D ks u).take j).foldl (vis al d) (far, q)).1 ((u :: (((nbK W D ks u).take j).foldl (vis al d) (far, q)).2).map (co W D)) (d - 1) (trns ks.length) ((trns ks.length).length : Int) (j : Int) W D ks) (2 * ks.length) ?_ ?_
  · intro j hj ih
    obtain ⟨seen, _, _, hs⟩ := InI.fold (fun v hv => nbK_lt h u v hv) ((nbK W D ks u).take j) [] (far, q) done (fun v hv => List.mem_of_mem_take hv) hi
    obtain ⟨st, hst⟩ : ∃ st, ((nbK W D ks u).take j).foldl (vis al d) (far, q) = st := ⟨_, rfl⟩
    have hjf : j < (nbK W D ks u).length := by omega
    rw [List.take_succ_eq_append_getElem hjf, List.foldl_append, List.foldl_cons, List.foldl_nil] at ih
    rw [hst] at ih hs ⊢
    have cv := nbK_co h u hjf
    obtain ⟨v, hv⟩ : ∃ v, (nbK W D ks u)[j] = v := ⟨_, rfl⟩
    rw [hv] at ih cv
    have vN : v < NN W D := by rw [← hv]; exact nbK_lt h u _ (List.getElem_mem hjf)
    have len := hs.len
    have db := inI_d hs
    have sm := inI_small hs
    have kt_ := knobTurned_ev h (a := cod D W.toNat (u : Int)) (cod_isD (by omega) _ _) (by rw [cod_len]; omega) (i := j / 2) (by omega) (t := (trn j).f1) (by rcases (trn_f (m := j)).2.2 with q | q <;> rw [q] <;> omega)
    rw [show kt D (kn ks (j / 2)) (trn j).f1 (cod D W.toNat (u : Int)) = ktn W D ks u j from rfl, ← cv, ← (trn_f (m := j)).2.1] at kt_
    have r0 : rdOf ByteArray.empty ((u :: st.2).map (co W D)) 0 = txt (cod D W.toNat (u : Int)) := rfl
    have ql : ((u :: st.2).map (co W D)).length = st.2.length + 1 := by simp
    refine Ev.succ ?_
    simp only [impl_Gears_far.l1, tl, if_pos (show (j : Int) < ((2 * ks.length : Nat) : Int) by omega), if_pos (show (0 : Int) ≤ (j : Int) by omega), ql, if_pos (show (0 : Int) < ((st.2.length + 1 : Nat) : Int) by omega), r0, trn_at hj]
    refine Ev.bind kt_ (Ev.bind (number_co hk vN) ?_)
    rw [tl] at ih
    simp only [if_pos (show (0 : Int) ≤ (v : Int) by omega), len, if_pos (show (v : Int) < ((NN W D : Nat) : Int) by omega), rd_dt (show v < st.1.length by omega), if_pos (show st.2.length + 1 < 8796093022208 by omega), Int.toNat_natCast, w64 (x := d) (by omega) (by omega), w64 (x := (j : Int) + 1) (by omega) (by omega), Int.sub_add_cancel]
    by_cases a : dt st.1 v < 0
    · have e : vis al d st v = (st.1.set v d, st.2 ++ [v]) := by unfold vis; rw [if_pos ⟨a, rfl⟩]
      rw [e] at ih
      simp only [List.map_cons, List.map_append, List.map_nil, List.cons_append] at ih ⊢
      simp only [if_pos a]
      exact ih
    · have e : vis al d st v = st := by unfold vis; rw [if_neg (fun q_ => a q_.1)]
      rw [e] at ih
      simp only [if_neg a]
      exact ih
  · refine Ev.succ ?_
    rw [List.take_of_length_le (by omega)]
    simp only [impl_Gears_far.l1, tl, if_neg (show ¬ ((2 * ks.length : Nat) : Int) < ((2 * ks.length : Nat) : Int) by omega), List.length_map, List.length_cons, if_pos (show (1 : Int) ≤ ((((nbK W D ks u).foldl (vis al d) (far, q)).2.length + 1 : Nat) : Int) by omega)]
    exact hfin
theorem grun {W D : Int} {ks : List (List Int)} (h : gearW W D ks) {s : Nat} : ∀ (m : Nat) (far : List Int) (q done : List Nat), Inv (NN W D) (nbK W D ks) al s far q done → NN W D ≤ m + done.length → Ev (fun k => impl_Gears_far.l0 k far (q.map (co W D)) W D ks) (run (nbK W D ks) al m (far, q))
  | m, far, [], done, hi, hm => by
    have e : run (nbK W D ks) al m (far, []) = far := by cases m <;> rfl
    rw [e]
    refine Ev.succ ?_
    simp only [impl_Gears_far.l0, List.map_nil, List.length_nil, if_neg (show ¬ (((0 : Nat) : Int) > 0) by omega)]
    exact Ev.now _
  | 0, far, u :: q, done, hi, hm => by
    have := hi.small
    rw [List.length_cons] at this
    omega
  | m + 1, far, u :: q, done, hi, hm => by
    obtain ⟨hr, hn, _⟩ := gear_wk h
    have uN := hi.uN
    have len : far.length = NN W D := hi.len
    have bg := hi.begin
    have in_ := ginner h bg (run (nbK W D ks) al m (Q.one (nbK W D ks) al u (far, q))) (grun h m _ _ (u :: done) (hi.one (fun v hv => nbK_lt h u v hv)) (by rw [List.length_cons]; omega))
    rw [Int.add_sub_cancel] at in_
    refine Ev.succ ?_
    simp only [impl_Gears_far.l0, List.map_cons, List.length_cons, List.length_map, if_pos (show (((q.length + 1 : Nat) : Int) > 0) by omega), if_pos (show (0 : Int) < ((q.length + 1 : Nat) : Int) by omega), show rdOf ByteArray.empty (co W D u :: q.map (co W D)) 0 = co W D u from rfl]
    refine Ev.bind (number_co hr.1 uN) ?_
    simp only [if_pos (show (0 : Int) ≤ (u : Int) by omega), len, if_pos (show (u : Int) < ((NN W D : Nat) : Int) by omega), rd_dt (show u < far.length by omega)]
    refine Ev.bind (turns5_ev (w := ks.length) (by omega)) ?_
    exact in_
def tbK (W D : Int) (ks : List (List Int)) (s : Nat) : List Int := tab (nbK W D ks) al (NN W D) s
theorem gfar_ev {W D : Int} {ks : List (List Int)} (h : gearW W D ks) {s : Nat} (hs : s < NN W D) : Ev (fun k => impl_Gears_far.f k W D ks (co W D s)) (tbK W D ks s) := by
  obtain ⟨hr, hn, _⟩ := gear_wk h
  have cb := cnt_bd hr.1
  have hc := NN_cnt hr.1
  unfold impl_Gears_far.f slices_Repeat_int_int.f
  refine Ev.bind (count_ev hr.1) ?_
  rw [← hc]
  simp only [List.length_cons, List.length_nil, Nat.zero_add, if_true, if_pos (show 1 ≤ ((NN W D : Nat) : Int) by omega), if_pos (show ((NN W D : Nat) : Int) ≤ 1000000 by omega), Option.bind_some, Int.toNat_natCast, show rd ([-1] : List Int) 0 = -1 from rfl, List.length_replicate]
  refine Ev.bind (number_co hr.1 hs) ?_
  simp only [if_pos (show (0 : Int) ≤ (s : Int) by omega), if_pos (show (s : Int) < ((NN W D : Nat) : Int) by omega), Int.toNat_natCast]
  exact grun h (NN W D) (tab0 (NN W D) s) [s] [] (inv0 hs) (by simp)
theorem tbK_tab {W D : Int} {ks : List (List Int)} (h : gearW W D ks) {s : Nat} (hs : s < NN W D) : Tab (NN W D) (nbK W D ks) al s (tbK W D ks s) := tab_tab (fun u _ => nbK_lt h u) hs
end Go.Proofs.Ytiacdekbleebjaa.GF
namespace Go.Proofs.Ytiacdekbleebjaa.GS
open Go.RowKit Go.Proofs.Ytiacdekbleebjaa.P Go.Proofs.Ytiacdekbleebjaa.B Go.Proofs.Ytiacdekbleebjaa.C Go.Proofs.Ytiacdekbleebjaa.L Go.Proofs.Ytiacdekbleebjaa.A Go.Proofs.Ytiacdekbleebjaa.O Go.Proofs.Ytiacdekbleebjaa.O2 Go.Proofs.Ytiacdekbleebjaa.O3 Go.Proofs.Ytiacdekbleebjaa.R Go.Proofs.Ytiacdekbleebjaa.RS Go.Proofs.Ytiacdekbleebjaa.D2 Go.Proofs.Ytiacdekbleebjaa.NX Go.Proofs.Ytiacdekbleebjaa.DE Go.Proofs.Ytiacdekbleebjaa.GE Go.Proofs.Ytiacdekbleebjaa.Q Go.Proofs.Ytiacdekbleebjaa.FF Go.Proofs.Ytiacdekbleebjaa.FS Go.Proofs.Ytiacdekbleebjaa.GF Go.Proofs.YtiacdekbleebjaaW.PrintWords Go.Proofs.YtiacdekbleebjaaW.PrintLast Go.Proofs.YtiacdekbleebjaaW.PrintMore
set_option linter.unusedVariables false
set_option linter.unusedSimpArgs false
theorem trn_by {i b : Nat} (hb : b < 2) : (2 * i + b) / 2 = i ∧ (trn (2 * i + b)).f1 = 1 - 2 * (b : Int) := by
  refine ⟨by omega, ?_⟩
  have : b = 0 ∨ b = 1 := by omega
  rcases this with rfl | rfl
  · simp only [trn, show (2 * i + 0) % 2 = 0 by omega, if_true]; rfl
  · simp only [trn, show (2 * i + 1) % 2 = 1 by omega, show ¬ (1 : Nat) = 0 by omega, if_false]; rfl
theorem j3_step {W D : Int} {ks : List (List Int)} (h : gearW W D ks) {s u : Nat} {d : Int} {seen : List Nat} {st : List Int × List Nat} {done P : List Nat} (hP : P.length = done.length)
    (hs : InI (NN W D) (nbK W D ks) al s u d seen st.1 st.2 done) {i b : Nat} (hi : i < ks.length) (hb : b < 2) {v : Nat} (hm : 2 * i + b < (nbK W D ks u).length) (hv : (nbK W D ks u)[2 * i + b] = v) (r : List Int)
    (hn : Ev (fun k => spec_joFar.l3 k (vis al d st v).1 (cds W D P u (vis al d st v).2) (P.length : Int) (d - 1) (i : Int) (1 - 2 * ((b + 1 : Nat) : Int)) (ks.length : Int) (i : Int) W D ks) r) :
    Ev (fun k => spec_joFar.l3 k st.1 (cds W D P u st.2) (P.length : Int) (d - 1) (i : Int) (1 - 2 * (b : Int)) (ks.length : Int) (i : Int) W D ks) r := by
  obtain ⟨hr, hkn, _⟩ := gear_wk h
  have hk := hr.1
  have dd := LK.d hk
  have hww := LK.w hk
  have cb := cnt_bd hk
  have hc := NN_cnt hk
  have len := hs.len
  have vN : v < NN W D := by rw [← hv]; exact nbK_lt h u _ (List.getElem_mem hm)
  have db := inI_d hs
  have sm := inI_small hs
  have cv := nbK_co h u hm
  rw [hv] at cv
  have jt := joTurn_ev h (a := cod D W.toNat (u : Int)) (cod_isD (by omega) _ _) (by rw [cod_len]; omega) hi (t := 1 - 2 * (b : Int)) (by omega)
  have e : kt D (kn ks i) (1 - 2 * (b : Int)) (cod D W.toNat (u : Int)) = ktn W D ks u (2 * i + b) := by
    unfold ktn
    rw [(trn_by hb).1, (trn_by hb).2]
  rw [e, ← cv, show txt (cod D W.toNat (u : Int)) = co W D u from rfl] at jt
  refine Ev.succ ?_
  simp only [spec_joFar.l3, if_pos (show (1 - 2 * (b : Int)) > -2 by omega), if_pos (show (0 : Int) ≤ (P.length : Int) by omega), cds_len, if_pos (show (P.length : Int) < ((P.length + (st.2.length + 1) : Nat) : Int) by omega), cds_at]
  refine Ev.bind jt (Ev.bind (whNumber_co hk vN) ?_)
  have w2 : wrap64 (1 - 2 * (b : Int) - 2) = 1 - 2 * ((b + 1 : Nat) : Int) := by rw [w64 (by omega) (by omega)]; omega
  simp only [if_pos (show (0 : Int) ≤ (v : Int) by omega), len, if_pos (show (v : Int) < ((NN W D : Nat) : Int) by omega), rd_dt (show v < st.1.length by omega), Int.toNat_natCast, Int.sub_add_cancel, w64 (x := d) (by omega) (by omega), w2, if_pos (show P.length + (st.2.length + 1) < 8796093022208 by omega)]
  by_cases a : dt st.1 v < 0
  · have vi : vis al d st v = (st.1.set v d, st.2 ++ [v]) := by unfold vis; rw [if_pos ⟨a, rfl⟩]
    rw [vi] at hn
    simp only [cds_snoc] at hn
    simp only [if_pos a]
    exact hn
  · have vi : vis al d st v = st := by unfold vis; rw [if_neg (fun q_ => a q_.1)]
    rw [vi] at hn
    simp only [if_neg a]
    exact hn
theorem jinner {W D : Int} {ks : List (List Int)} (h : gearW W D ks) {s u : Nat} {d : Int} {far : List Int} {q done P : List Nat} (hP : P.length = done.length)
    (hi : InI (NN W D) (nbK W D ks) al s u d [] far q done) (r : List Int)
    (hfin : Ev (fun k => spec_joFar.l1 k ((nbK W D ks u).foldl (vis al d) (far, q)).1 (cds W D P u ((nbK W D ks u).foldl (vis al d) (far, q)).2) ((P.length + 1 : Nat) : Int) W D ks) r) :
    Ev (fun k => spec_joFar.l2 k far (cds W D P u q) (P.length : Int) (d - 1) (ks.length : Int) 0 W D ks) r := by
  obtain ⟨hr, hkn, _⟩ := gear_wk h
  have hk := hr.1
  have hc := NN_cnt hk
  have cb := cnt_bd hk
  have lf := nbK_len W D ks u
  have sm := inI_small hi
  have at_ : ∀ j, ∃ seen, InI (NN W D) (nbK W D ks) al s u d seen (((nbK W D ks u).take j).foldl (vis al d) (far, q)).1 (((nbK W D ks u).take j).foldl (vis al d) (far, q)).2 done := fun j => by
    obtain ⟨seen, _, _, hs⟩ := InI.fold (fun v hv => nbK_lt h u v hv) ((nbK W D ks u).take j) [] (far, q) done (fun v hv => List.mem_of_mem_take hv) hi
    exact ⟨seen, hs⟩
  refine ev_loop (g := fun i k => spec_joFar.l2 k (((nbK W D ks u).take (2 * i)).foldl (vis al d) (far, q)).1 (cds W D P u (((nbK W D ks u).take (2 * i)).foldl (vis al d) (far, q)).2) (P.length : Int) (d - 1) (ks.length : Int) (i : Int) W D ks) ks.length ?_ ?_
  · intro i hi' ih
    obtain ⟨s1, h1⟩ := at_ (2 * i)
    obtain ⟨s2, h2⟩ := at_ (2 * i + 1)
    have m1 : 2 * i + 0 < (nbK W D ks u).length := by omega
    have m2 : 2 * i + 1 < (nbK W D ks u).length := by omega
    have t1 : ((nbK W D ks u).take (2 * i + 1)).foldl (vis al d) (far, q) = vis al d (((nbK W D ks u).take (2 * i)).foldl (vis al d) (far, q)) (nbK W D ks u)[2 * i + 0] := by
      rw [List.take_succ_eq_append_getElem (show 2 * i < (nbK W D ks u).length by omega), List.foldl_append, List.foldl_cons, List.foldl_nil]
      rfl
    have t2 : ((nbK W D ks u).take (2 * (i + 1))).foldl (vis al d) (far, q) = vis al d (((nbK W D ks u).take (2 * i + 1)).foldl (vis al d) (far, q)) (nbK W D ks u)[2 * i + 1] := by
      rw [show 2 * (i + 1) = 2 * i + 1 + 1 by omega, List.take_succ_eq_append_getElem m2, List.foldl_append, List.foldl_cons, List.foldl_nil]
    rw [t2] at ih
    refine Ev.succ ?_
    simp only [spec_joFar.l2, if_pos (show (i : Int) < (ks.length : Int) by omega)]
    refine j3_step h hP h1 hi' (b := 0) (by omega) m1 rfl r ?_
    rw [← t1]
    refine j3_step h hP h2 hi' (b := 1) (by omega) m2 rfl r ?_
    refine Ev.succ ?_
    simp only [spec_joFar.l3, if_neg (show ¬ (1 - 2 * ((1 + 1 : Nat) : Int)) > -2 by omega), w64 (x := (i : Int) + 1) (by omega) (by omega)]
    exact ih
  · refine Ev.succ ?_
    rw [List.take_of_length_le (by omega)]
    simp only [spec_joFar.l2, if_neg (show ¬ ((ks.length : Nat) : Int) < (ks.length : Int) by omega), w64 (x := (P.length : Int) + 1) (by omega) (by omega)]
    exact hfin
theorem jrun {W D : Int} {ks : List (List Int)} (h : gearW W D ks) {s : Nat} : ∀ (m : Nat) (far : List Int) (q done P : List Nat), P.length = done.length → Inv (NN W D) (nbK W D ks) al s far q done → NN W D ≤ m + done.length → Ev (fun k => spec_joFar.l1 k far ((P ++ q).map (co W D)) (P.length : Int) W D ks) (run (nbK W D ks) al m (far, q))
  | m, far, [], done, P, hP, hi, hm => by
    have e : run (nbK W D ks) al m (far, []) = far := by cases m <;> rfl
    rw [e]
    refine Ev.succ ?_
    simp only [spec_joFar.l1, List.append_nil, List.length_map, if_neg (show ¬ (P.length : Int) < (P.length : Int) by omega)]
    exact Ev.now _
  | 0, far, u :: q, done, P, hP, hi, hm => by
    have := hi.small
    rw [List.length_cons] at this
    omega
  | m + 1, far, u :: q, done, P, hP, hi, hm => by
    obtain ⟨hr, hkn, _⟩ := gear_wk h
    have uN := hi.uN
    have len : far.length = NN W D := hi.len
    have ca := cds_at W D P u q
    unfold cds at ca
    have ih := jrun h m (Q.one (nbK W D ks) al u (far, q)).1 (Q.one (nbK W D ks) al u (far, q)).2 (u :: done) (P ++ [u]) (by simp [hP]) (hi.one (fun v hv => nbK_lt h u v hv)) (by rw [List.length_cons]; omega)
    rw [List.append_assoc, List.length_append] at ih
    have in_ := jinner h hP hi.begin _ ih
    rw [Int.add_sub_cancel] at in_
    refine Ev.succ ?_
    simp only [spec_joFar.l1, List.length_map, List.length_append, List.length_cons, if_pos (show (P.length : Int) < ((P.length + (q.length + 1) : Nat) : Int) by omega), if_pos (show (0 : Int) ≤ (P.length : Int) by omega), ca]
    refine Ev.bind (whNumber_co hr.1 uN) ?_
    simp only [if_pos (show (0 : Int) ≤ (u : Int) by omega), len, if_pos (show (u : Int) < ((NN W D : Nat) : Int) by omega), rd_dt (show u < far.length by omega)]
    exact in_
theorem jfar_ev {W D : Int} {ks : List (List Int)} (h : gearW W D ks) {s : Nat} (hs : s < NN W D) : Ev (fun k => spec_joFar.f k W D ks (co W D s)) (tbK W D ks s) := by
  obtain ⟨hr, hkn, _⟩ := gear_wk h
  have cb := cnt_bd hr.1
  have hc := NN_cnt hr.1
  unfold spec_joFar.f
  refine Ev.bind (whCount_ev hr.1) ?_
  simp only [← hc, if_pos (show (0 : Int) ≤ ((NN W D : Nat) : Int) by omega), Int.toNat_natCast, if_pos (show NN W D ≤ 35184372088832 by omega), Option.bind_some, List.length_replicate]
  refine ev_loop (g := fun j k => spec_joFar.l0 k (co W D s) (List.replicate j (-1) ++ List.replicate (NN W D - j) 0) ((NN W D : Nat) : Int) (j : Int) W D ks) (NN W D) ?_ ?_
  · intro j hj ih
    have e : (List.replicate j (-1 : Int) ++ List.replicate (NN W D - j) 0).set j (-1) = List.replicate (j + 1) (-1) ++ List.replicate (NN W D - (j + 1)) 0 := by
      rw [List.set_append_right _ _ (by simp), List.length_replicate, Nat.sub_self, show NN W D - j = NN W D - (j + 1) + 1 by omega, List.replicate_succ, List.set_cons_zero, show List.replicate (j + 1) (-1 : Int) = List.replicate j (-1) ++ [-1] from List.replicate_succ', List.append_assoc]
      rfl
    refine Ev.succ ?_
    simp only [spec_joFar.l0, if_pos (show (j : Int) < ((NN W D : Nat) : Int) by omega), if_pos (show (0 : Int) ≤ (j : Int) by omega), List.length_append, List.length_replicate, if_pos (show (j : Int) < ((j + (NN W D - j) : Nat) : Int) by omega), Int.toNat_natCast, w64 (x := (j : Int) + 1) (by omega) (by omega)]
    rw [e]
    exact ih
  · refine Ev.succ ?_
    simp only [spec_joFar.l0, if_neg (show ¬ ((NN W D : Nat) : Int) < ((NN W D : Nat) : Int) by omega), Nat.sub_self, List.replicate_zero, List.append_nil, List.length_replicate]
    refine Ev.bind (whNumber_co hr.1 hs) ?_
    simp only [if_pos (show (0 : Int) ≤ (s : Int) by omega), if_pos (show (s : Int) < ((NN W D : Nat) : Int) by omega), Int.toNat_natCast]
    have := jrun h (NN W D) (tab0 (NN W D) s) [s] [] [] rfl (inv0 hs) (by simp)
    exact this
end Go.Proofs.Ytiacdekbleebjaa.GS
namespace Go.Proofs.Ytiacdekbleebjaa.ND
open Go.RowKit Go.Proofs.Ytiacdekbleebjaa.P Go.Proofs.Ytiacdekbleebjaa.B Go.Proofs.Ytiacdekbleebjaa.C Go.Proofs.Ytiacdekbleebjaa.L Go.Proofs.Ytiacdekbleebjaa.A Go.Proofs.Ytiacdekbleebjaa.O Go.Proofs.Ytiacdekbleebjaa.O2 Go.Proofs.Ytiacdekbleebjaa.O3 Go.Proofs.Ytiacdekbleebjaa.R Go.Proofs.Ytiacdekbleebjaa.RS Go.Proofs.Ytiacdekbleebjaa.D2 Go.Proofs.Ytiacdekbleebjaa.NX Go.Proofs.Ytiacdekbleebjaa.DE Go.Proofs.Ytiacdekbleebjaa.Q Go.Proofs.Ytiacdekbleebjaa.FF Go.Proofs.Ytiacdekbleebjaa.FS Go.Proofs.YtiacdekbleebjaaW.PrintWords Go.Proofs.YtiacdekbleebjaaW.PrintLast Go.Proofs.YtiacdekbleebjaaW.PrintMore
set_option linter.unusedVariables false
set_option linter.unusedSimpArgs false
theorem way_cons {nb : Nat → List Nat} {live : Nat → Bool} {a b : Nat} (hb : b ∈ nb a) (hl : live b = true) : ∀ {v n : Nat}, Q.Way nb live b v n → Q.Way nb live a v (n + 1) := by
  intro v n w
  induction w with
  | nil => exact .snoc (.nil a) hb hl
  | snoc w hv hl' ih => exact .snoc ih hv hl'
theorem way_rev {nb : Nat → List Nat} {live : Nat → Bool} {N : Nat} (hs : ∀ u v, u < N → v ∈ nb u → u ∈ nb v) (hN : ∀ u, u < N → ∀ v ∈ nb u, v < N) {s : Nat} (hsN : s < N) (hl : live s = true) : ∀ {v n : Nat}, Q.Way nb live s v n → v < N ∧ live v = true ∧ Q.Way nb live v s n := by
  intro v n w
  induction w with
  | nil => exact ⟨hsN, hl, .nil s⟩
  | snoc w hv hl' ih =>
    obtain ⟨h1, h2, h3⟩ := ih
    exact ⟨hN _ h1 _ hv, hl', way_cons (hs _ _ h1 hv) h2 h3⟩
def gj (nb : Nat → List Nat) (far : List Int) (n : Nat) (a : Nat) : Nat := (nb a).findIdx fun w => decide (dt far w = (n : Int))
def gnx (nb : Nat → List Nat) (far : List Int) (n : Nat) (a : Nat) : Nat := (nb a).getD (gj nb far n a) 0
def gwy (nb : Nat → List Nat) (far : List Int) : Nat → Nat → List Nat
  | 0, _ => []
  | n + 1, a => gj nb far n a :: gwy nb far n (gnx nb far n a)
theorem gwy_len (nb : Nat → List Nat) (far : List Int) : ∀ n a, (gwy nb far n a).length = n
  | 0, _ => rfl
  | n + 1, a => by simp [gwy, gwy_len nb far n]
/-- What a table from an end says of a next code. -/
structure Sy (N : Nat) (nb : Nat → List Nat) : Prop where
  symm : ∀ u v, u < N → v ∈ nb u → u ∈ nb v
  lt : ∀ u, u < N → ∀ v ∈ nb u, v < N
theorem g_at {N : Nat} {nb : Nat → List Nat} {live : Nat → Bool} {t : Nat} {far : List Int} (sy : Sy N nb) (T : Tab N nb live t far) {n a : Nat} (ha : a < N) (hd : dt far a = ((n + 1 : Nat) : Int)) :
    ∃ hj : gj nb far n a < (nb a).length, (nb a)[gj nb far n a] = gnx nb far n a ∧ dt far (gnx nb far n a) = (n : Int) ∧ gnx nb far n a ∈ nb a ∧ gnx nb far n a < N ∧ ∀ j (h : j < (nb a).length), j < gj nb far n a → ¬ (0 ≤ dt far (nb a)[j] ∧ dt far (nb a)[j] < dt far a) := by
  obtain ⟨la, u, hu, eu⟩ := T.pred a (by omega)
  have uN : u < N := by rw [← T.len]; exact dt_lt (by omega)
  have um := sy.symm u a uN hu
  have hj : gj nb far n a < (nb a).length := List.findIdx_lt_length_of_exists ⟨u, um, decide_eq_true (by omega)⟩
  have e : (nb a)[gj nb far n a] = gnx nb far n a := by unfold gnx; rw [List.getD_eq_getElem?_getD, List.getElem?_eq_getElem hj]; rfl
  have p := List.findIdx_getElem (w := hj)
  have p2 : dt far (nb a)[gj nb far n a] = (n : Int) := of_decide_eq_true p
  have m : gnx nb far n a ∈ nb a := by rw [← e]; exact List.getElem_mem hj
  refine ⟨hj, e, by rw [← e]; exact p2, m, sy.lt a ha _ m, fun j h hlt q => ?_⟩
  have np := List.not_of_lt_findIdx hlt
  have wm := List.getElem_mem h
  have back := sy.symm a _ ha wm
  have st := T.step _ a q.1 back la
  have : dt far (nb a)[j] = (n : Int) := by omega
  rw [decide_eq_true this] at np
  exact absurd np (by decide)
/-- The table from an end. -/
def tb (W D : Int) (l : List ByteArray) (s : Nat) : List Int := tab (nbF W D) (liv W D l) (NN W D) s
end Go.Proofs.Ytiacdekbleebjaa.ND
namespace Go.Proofs.Ytiacdekbleebjaa.GK
open Go.RowKit Go.Proofs.Ytiacdekbleebjaa.P Go.Proofs.Ytiacdekbleebjaa.B Go.Proofs.Ytiacdekbleebjaa.C Go.Proofs.Ytiacdekbleebjaa.L Go.Proofs.Ytiacdekbleebjaa.A Go.Proofs.Ytiacdekbleebjaa.O Go.Proofs.Ytiacdekbleebjaa.O2 Go.Proofs.Ytiacdekbleebjaa.O3 Go.Proofs.Ytiacdekbleebjaa.R Go.Proofs.Ytiacdekbleebjaa.RS Go.Proofs.Ytiacdekbleebjaa.D2 Go.Proofs.Ytiacdekbleebjaa.NX Go.Proofs.Ytiacdekbleebjaa.DE Go.Proofs.Ytiacdekbleebjaa.GE Go.Proofs.Ytiacdekbleebjaa.Q Go.Proofs.Ytiacdekbleebjaa.FF Go.Proofs.Ytiacdekbleebjaa.FS Go.Proofs.Ytiacdekbleebjaa.GF Go.Proofs.Ytiacdekbleebjaa.GS Go.Proofs.Ytiacdekbleebjaa.ND Go.Proofs.YtiacdekbleebjaaW.PrintWords Go.Proofs.YtiacdekbleebjaaW.PrintLast Go.Proofs.YtiacdekbleebjaaW.PrintMore
set_option linter.unusedVariables false
set_option linter.unusedSimpArgs false
theorem kt_back {D : Int} {k a : List Int} (ha : IsD D a) (h : k.length = a.length) (t : Int) : kt D k (-t) (kt D k t a) = a := by
  have l1 : (kt D k t a).length = a.length := kt_len h t
  refine List.ext_getElem (by rw [kt_len (by omega), l1]) fun i h1 h2 => ?_
  rw [kt_get, kt_get, Int.neg_mul, ← Int.sub_eq_add_neg, Int.emod_sub_emod, Int.add_sub_cancel]
  have := IsD.get ha h2
  exact Int.emod_eq_of_lt this.1 this.2
theorem nbK_symm {W D : Int} {ks : List (List Int)} (h : gearW W D ks) {u v : Nat} (hu : u < NN W D) (hm : v ∈ nbK W D ks u) : u ∈ nbK W D ks v := by
  obtain ⟨hr, hkn, _⟩ := gear_wk h
  have hk := hr.1
  have dd := LK.d hk
  have hc := NN_cnt hk
  have hww := LK.w hk
  obtain ⟨m, hl, e⟩ := List.mem_iff_getElem.mp hm
  have hl2 : m < 2 * ks.length := by rw [nbK_len] at hl; exact hl
  obtain ⟨i1, i2, i3, i4⟩ := ktn_ok h u hl2
  rw [nbK_at] at e
  have cv : cod D W.toNat (v : Int) = ktn W D ks u m := by
    have q := cod_num (D := D) (by omega) _ i1
    rw [i2] at q
    rw [← e, Int.toNat_of_nonneg i3, q]
  obtain ⟨kl, kd⟩ := kn_at h (i := m / 2) (by omega)
  obtain ⟨m', hm', f1, f2⟩ : ∃ m', m' < 2 * ks.length ∧ m' / 2 = m / 2 ∧ (trn m').f1 = -(trn m).f1 := by
    by_cases z : m % 2 = 0
    · refine ⟨m + 1, by omega, by omega, ?_⟩
      simp only [trn, z, if_true, show ¬ (m + 1) % 2 = 0 by omega, if_false]
    · refine ⟨m - 1, by omega, by omega, ?_⟩
      simp only [trn, z, if_false, show (m - 1) % 2 = 0 by omega, if_true]; rfl
  refine List.mem_iff_getElem.mpr ⟨m', by rw [nbK_len]; exact hm', ?_⟩
  rw [nbK_at]
  have back : ktn W D ks v m' = cod D W.toNat (u : Int) := by
    unfold ktn at cv ⊢
    rw [cv, f1, f2]
    exact kt_back (cod_isD (by omega) _ _) (by rw [cod_len]; omega) _
  rw [back, num_cod (by omega)]
  have e2 : cnt W D = D ^ W.toNat := rfl
  rw [Int.emod_eq_of_lt (by omega) (by omega)]
  omega
theorem sy_nbK {W D : Int} {ks : List (List Int)} (h : gearW W D ks) : Sy (NN W D) (nbK W D ks) := ⟨fun u v hu hv => nbK_symm h hu hv, fun u _ => nbK_lt h u⟩
theorem gk_ev {W D : Int} {ks : List (List Int)} (h : gearW W D ks) {t : Nat} (ht : t < NN W D) : ∀ (n a : Nat) (out : List S48), a < NN W D → dt (tbK W D ks t) a = (n : Int) → out.length + n ≤ 100000000 →
    Ev (fun k => impl_FirstKnobs.l0 k (co W D a) (co W D t) (tbK W D ks t) out W D ks) (out ++ (gwy (nbK W D ks) (tbK W D ks t) n a).map trn, true)
  | 0, a, out, ha, hd, ho => by
    have T := tbK_tab h ht
    have e := T.zero a hd
    subst e
    refine Ev.succ ?_
    simp only [impl_FirstKnobs.l0, if_true, gwy, List.map_nil, List.append_nil]
    exact Ev.now _
  | n + 1, a, out, ha, hd, ho => by
    obtain ⟨hr, hkn, _⟩ := gear_wk h
    have hk := hr.1
    have dd := LK.d hk
    have hww := LK.w hk
    have T := tbK_tab h ht
    have len := T.len
    have lf := nbK_len W D ks a
    have tl : (trns ks.length).length = 2 * ks.length := by simp [trns]
    have ne : a ≠ t := by rintro rfl; have := T.start; omega
    obtain ⟨hj, e, d1, m, lt, bef⟩ := g_at (sy_nbK h) T ha hd
    have stp : ∀ j (hj : j < (nbK W D ks a).length), 0 ≤ dt (tbK W D ks t) (nbK W D ks a)[j] := fun j hj => (T.step a _ (by omega) (List.getElem_mem hj) rfl).1
    have one : ∀ j (hjf : j < (nbK W D ks a).length), Ev (fun k => impl_Gears_turned.f k W D ks (co W D a) ((trn j).f0) ((trn j).f1)) (co W D (nbK W D ks a)[j]) := fun j hjf => by
      have kt_ := knobTurned_ev h (a := cod D W.toNat (a : Int)) (cod_isD (by omega) _ _) (by rw [cod_len]; omega) (i := j / 2) (by omega) (t := (trn j).f1) (by rcases (trn_f (m := j)).2.2 with q | q <;> rw [q] <;> omega)
      rw [nbK_co h a hjf, (trn_f (m := j)).2.1]
      exact kt_
    refine Ev.succ ?_
    simp only [impl_FirstKnobs.l0, if_neg (show ¬ (co W D a).toList = (co W D t).toList from fun q => ne (co_inj hk ha ht (toList_inj.mp q)))]
    refine Ev.bind (turns5_ev (w := ks.length) (by omega)) ?_
    refine ev_loop (g := fun j k => impl_FirstKnobs.l1 k (co W D a) (co W D t) (tbK W D ks t) out (trns ks.length) ((trns ks.length).length : Int) (j : Int) W D ks) (gj (nbK W D ks) (tbK W D ks t) n a) ?_ ?_
    · intro j hjl ih
      have jf : j < (nbK W D ks a).length := by omega
      have nb := bef j jf hjl
      have s0 := stp j jf
      have on := one j jf
      obtain ⟨v, hv⟩ : ∃ v, (nbK W D ks a)[j] = v := ⟨_, rfl⟩
      rw [hv] at nb s0 on
      have vN : v < NN W D := by rw [← hv]; exact nbK_lt h a _ (List.getElem_mem jf)
      rw [hd] at nb
      rw [tl] at ih
      refine Ev.succ ?_
      simp only [impl_FirstKnobs.l1, tl, if_pos (show (j : Int) < ((2 * ks.length : Nat) : Int) by omega), if_pos (show (0 : Int) ≤ (j : Int) by omega), trn_at (w := ks.length) (j := j) (by omega)]
      refine Ev.bind on (Ev.bind (number_co hk vN) ?_)
      simp only [len, if_pos (show (0 : Int) ≤ (v : Int) by omega), if_pos (show (v : Int) < ((NN W D : Nat) : Int) by omega)]
      refine Ev.bind (number_co hk ha) ?_
      simp only [if_pos (show (0 : Int) ≤ (a : Int) by omega), if_pos (show (a : Int) < ((NN W D : Nat) : Int) by omega), rd_dt (show v < (tbK W D ks t).length by omega), rd_dt (show a < (tbK W D ks t).length by omega), hd, if_neg (show ¬ dt (tbK W D ks t) v < ((n + 1 : Nat) : Int) by omega), w64 (x := (j : Int) + 1) (by omega) (by omega)]
      exact ih
    · have on := one _ hj
      rw [e] at on
      have ih := gk_ev h ht n (gnx (nbK W D ks) (tbK W D ks t) n a) (out ++ [trn (gj (nbK W D ks) (tbK W D ks t) n a)]) lt d1 (by rw [List.length_append]; simp only [List.length_cons, List.length_nil]; omega)
      rw [List.append_assoc] at ih
      refine Ev.succ ?_
      simp only [impl_FirstKnobs.l1, tl, if_pos (show ((gj (nbK W D ks) (tbK W D ks t) n a : Nat) : Int) < ((2 * ks.length : Nat) : Int) by omega), if_pos (show (0 : Int) ≤ ((gj (nbK W D ks) (tbK W D ks t) n a : Nat) : Int) by omega), trn_at (w := ks.length) (j := gj (nbK W D ks) (tbK W D ks t) n a) (by omega)]
      refine Ev.bind on (Ev.bind (number_co hk lt) ?_)
      simp only [len, if_pos (show (0 : Int) ≤ ((gnx (nbK W D ks) (tbK W D ks t) n a : Nat) : Int) by omega), if_pos (show ((gnx (nbK W D ks) (tbK W D ks t) n a : Nat) : Int) < ((NN W D : Nat) : Int) by omega)]
      refine Ev.bind (number_co hk ha) ?_
      simp only [if_pos (show (0 : Int) ≤ (a : Int) by omega), if_pos (show (a : Int) < ((NN W D : Nat) : Int) by omega), rd_dt (show gnx (nbK W D ks) (tbK W D ks t) n a < (tbK W D ks t).length by omega), rd_dt (show a < (tbK W D ks t).length by omega), hd, d1, if_pos (show ((n : Nat) : Int) < ((n + 1 : Nat) : Int) by omega), if_pos (show out.length < 8796093022208 by omega)]
      exact ih
end Go.Proofs.Ytiacdekbleebjaa.GK
namespace Go.Proofs.Ytiacdekbleebjaa.GJ
open Go.RowKit Go.Proofs.Ytiacdekbleebjaa.P Go.Proofs.Ytiacdekbleebjaa.B Go.Proofs.Ytiacdekbleebjaa.C Go.Proofs.Ytiacdekbleebjaa.L Go.Proofs.Ytiacdekbleebjaa.A Go.Proofs.Ytiacdekbleebjaa.O Go.Proofs.Ytiacdekbleebjaa.O2 Go.Proofs.Ytiacdekbleebjaa.O3 Go.Proofs.Ytiacdekbleebjaa.R Go.Proofs.Ytiacdekbleebjaa.RS Go.Proofs.Ytiacdekbleebjaa.D2 Go.Proofs.Ytiacdekbleebjaa.NX Go.Proofs.Ytiacdekbleebjaa.DE Go.Proofs.Ytiacdekbleebjaa.GE Go.Proofs.Ytiacdekbleebjaa.Q Go.Proofs.Ytiacdekbleebjaa.FF Go.Proofs.Ytiacdekbleebjaa.FS Go.Proofs.Ytiacdekbleebjaa.GF Go.Proofs.Ytiacdekbleebjaa.GS Go.Proofs.Ytiacdekbleebjaa.ND Go.Proofs.Ytiacdekbleebjaa.GK Go.Proofs.YtiacdekbleebjaaW.PrintWords Go.Proofs.YtiacdekbleebjaaW.PrintLast Go.Proofs.YtiacdekbleebjaaW.PrintMore
set_option linter.unusedVariables false
set_option linter.unusedSimpArgs false
theorem trn_eq {i b : Nat} (hb : b < 2) : (⟨(i : Int), 1 - 2 * (b : Int)⟩ : S48) = trn (2 * i + b) := by
  have f0 : (trn (2 * i + b)).f0 = (i : Int) := by rw [(trn_f).2.1, (trn_by hb).1]
  rw [← f0, ← (trn_by (i := i) hb).2]
theorem jk_ev {W D : Int} {ks : List (List Int)} (h : gearW W D ks) {t : Nat} (ht : t < NN W D) : ∀ (n a : Nat) (out : List S48), a < NN W D → dt (tbK W D ks t) a = (n : Int) → out.length + n ≤ 100000000 →
    Ev (fun k => spec_FirstKnobs.l0 k (co W D a) (tbK W D ks t) (n : Int) out W D ks) (out ++ (gwy (nbK W D ks) (tbK W D ks t) n a).map trn, true)
  | 0, a, out, ha, hd, ho => by
    refine Ev.succ ?_
    simp only [spec_FirstKnobs.l0, if_neg (show ¬ (((0 : Nat) : Int) > 0) by omega), gwy, List.map_nil, List.append_nil]
    exact Ev.now _
  | n + 1, a, out, ha, hd, ho => by
    obtain ⟨hr, hkn, _⟩ := gear_wk h
    have hk := hr.1
    have dd := LK.d hk
    have hww := LK.w hk
    have T := tbK_tab h ht
    have len := T.len
    have lf := nbK_len W D ks a
    obtain ⟨hj, e, d1, m, lt, bef⟩ := g_at (sy_nbK h) T ha hd
    have ih := jk_ev h ht n (gnx (nbK W D ks) (tbK W D ks t) n a) (out ++ [trn (gj (nbK W D ks) (tbK W D ks t) n a)]) lt d1 (by rw [List.length_append]; simp only [List.length_cons, List.length_nil]; omega)
    rw [List.append_assoc] at ih
    rw [show gwy (nbK W D ks) (tbK W D ks t) (n + 1) a = gj (nbK W D ks) (tbK W D ks t) n a :: gwy (nbK W D ks) (tbK W D ks t) n (gnx (nbK W D ks) (tbK W D ks t) n a) from rfl, List.map_cons]
    rw [show [trn (gj (nbK W D ks) (tbK W D ks t) n a)] ++ (gwy (nbK W D ks) (tbK W D ks t) n (gnx (nbK W D ks) (tbK W D ks t) n a)).map trn = trn (gj (nbK W D ks) (tbK W D ks t) n a) :: (gwy (nbK W D ks) (tbK W D ks t) n (gnx (nbK W D ks) (tbK W D ks t) n a)).map trn from rfl] at ih
    generalize (out ++ trn (gj (nbK W D ks) (tbK W D ks t) n a) :: (gwy (nbK W D ks) (tbK W D ks t) n (gnx (nbK W D ks) (tbK W D ks t) n a)).map trn, true) = r at ih ⊢
    obtain ⟨J, hJ⟩ : ∃ J, gj (nbK W D ks) (tbK W D ks t) n a = J := ⟨_, rfl⟩
    obtain ⟨v, hv⟩ : ∃ v, gnx (nbK W D ks) (tbK W D ks t) n a = v := ⟨_, rfl⟩
    simp only [hJ] at hj e bef ih
    rw [hv] at e d1 m lt ih
    have jt : ∀ (i b : Nat), b < 2 → (hl : 2 * i + b < (nbK W D ks a).length) → Ev (fun k => spec_joTurn.f k W D ks (co W D a) (i : Int) (1 - 2 * (b : Int))) (co W D (nbK W D ks a)[2 * i + b]) := fun i b hb hl => by
      have q := joTurn_ev h (a := cod D W.toNat (a : Int)) (cod_isD (by omega) _ _) (by rw [cod_len]; omega) (i := i) (by omega) (t := 1 - 2 * (b : Int)) (by omega)
      have e : kt D (kn ks i) (1 - 2 * (b : Int)) (cod D W.toNat (a : Int)) = ktn W D ks a (2 * i + b) := by
        unfold ktn
        rw [(trn_by hb).1, (trn_by hb).2]
      rw [e, ← nbK_co h a hl] at q
      exact q
    have w1 : wrap64 (((n + 1 : Nat) : Int) - 1) = (n : Int) := by
      have := T.bd a
      have := NN_cnt hk
      have := cnt_bd hk
      rw [w64 (by omega) (by omega)]; omega
    have fail : ∀ (i b : Nat), b < 2 → 2 * i + b < J → Ev (fun k => spec_FirstKnobs.l2 k (co W D a) (tbK W D ks t) ((n + 1 : Nat) : Int) out false (i : Int) (1 - 2 * ((b + 1 : Nat) : Int)) W D ks) r → Ev (fun k => spec_FirstKnobs.l2 k (co W D a) (tbK W D ks t) ((n + 1 : Nat) : Int) out false (i : Int) (1 - 2 * (b : Int)) W D ks) r := fun i b hb hlt hn => by
      have hl : 2 * i + b < (nbK W D ks a).length := by omega
      have nb := bef (2 * i + b) hl hlt
      have on := jt i b hb hl
      obtain ⟨x, hx⟩ : ∃ x, (nbK W D ks a)[2 * i + b] = x := ⟨_, rfl⟩
      rw [hx] at nb on
      have xN : x < NN W D := by rw [← hx]; exact nbK_lt h a _ (List.getElem_mem hl)
      have w2 : wrap64 (1 - 2 * (b : Int) - 2) = 1 - 2 * ((b + 1 : Nat) : Int) := by rw [w64 (by omega) (by omega)]; omega
      refine Ev.succ ?_
      simp only [spec_FirstKnobs.l2, if_pos (show (1 - 2 * (b : Int)) > -2 by omega), Bool.not_false]
      refine Ev.succ ?_
      simp only [spec_FirstKnobs.j4, if_true]
      refine Ev.bind on (Ev.bind (whNumber_co hk xN) ?_)
      simp only [len, if_pos (show (0 : Int) ≤ (x : Int) by omega), if_pos (show (x : Int) < ((NN W D : Nat) : Int) by omega), rd_dt (show x < (tbK W D ks t).length by omega), w1, if_neg (show ¬ dt (tbK W D ks t) x = (n : Int) by omega), w2]
      exact hn
    have outw : ∀ (i : Nat) (by_ : Int), (i : Int) ≤ 1000 → Ev (fun k => spec_FirstKnobs.l2 k (co W D v) (tbK W D ks t) ((n + 1 : Nat) : Int) (out ++ [trn J]) true (i : Int) by_ W D ks) r := fun i by_ hi => by
      have go : Ev (fun k => spec_FirstKnobs.j4 k (co W D v) (tbK W D ks t) ((n + 1 : Nat) : Int) (out ++ [trn J]) true (i : Int) by_ false W D ks) r := by
        refine Ev.succ ?_
        simp only [spec_FirstKnobs.j4, Bool.false_eq_true, if_false]
        refine Ev.succ ?_
        simp only [spec_FirstKnobs.l1, Bool.not_true, ite_self]
        refine Ev.succ ?_
        simp only [spec_FirstKnobs.j2, Bool.false_eq_true, if_false, w1]
        exact ih
      refine Ev.succ ?_
      simp only [spec_FirstKnobs.l2, Bool.not_true, ite_self]
      exact go
    have hit : ∀ (i b : Nat), b < 2 → 2 * i + b = J → Ev (fun k => spec_FirstKnobs.l2 k (co W D a) (tbK W D ks t) ((n + 1 : Nat) : Int) out false (i : Int) (1 - 2 * (b : Int)) W D ks) r := fun i b hb he => by
      have hl : 2 * i + b < (nbK W D ks a).length := by omega
      have on := jt i b hb hl
      have ex : (nbK W D ks a)[2 * i + b] = v := by simp only [he]; exact e
      rw [ex] at on
      refine Ev.succ ?_
      simp only [spec_FirstKnobs.l2, if_pos (show (1 - 2 * (b : Int)) > -2 by omega), Bool.not_false]
      refine Ev.succ ?_
      simp only [spec_FirstKnobs.j4, if_true]
      refine Ev.bind on (Ev.bind (whNumber_co hk lt) ?_)
      simp only [len, if_pos (show (0 : Int) ≤ (v : Int) by omega), if_pos (show (v : Int) < ((NN W D : Nat) : Int) by omega), rd_dt (show v < (tbK W D ks t).length by omega), w1, d1, if_true, if_pos (show out.length < 8796093022208 by omega), trn_eq hb, he]
      exact outw i _ (by omega)
    refine Ev.succ ?_
    simp only [spec_FirstKnobs.l0, if_pos (show (((n + 1 : Nat) : Int) > 0) by omega)]
    refine ev_loop (g := fun i k => spec_FirstKnobs.l1 k (co W D a) (tbK W D ks t) ((n + 1 : Nat) : Int) out false (i : Int) W D ks) (J / 2) ?_ ?_
    · intro i hi ihl
      refine Ev.succ ?_
      simp only [spec_FirstKnobs.l1, if_pos (show (i : Int) < (ks.length : Int) by omega), Bool.not_false]
      refine Ev.succ ?_
      simp only [spec_FirstKnobs.j2, if_true]
      refine fail i 0 (by omega) (by omega) (fail i 1 (by omega) (by omega) ?_)
      refine Ev.succ ?_
      simp only [spec_FirstKnobs.l2, if_neg (show ¬ (1 - 2 * ((1 + 1 : Nat) : Int)) > -2 by omega)]
      refine Ev.succ ?_
      simp only [spec_FirstKnobs.j4, Bool.false_eq_true, if_false, w64 (x := (i : Int) + 1) (by omega) (by omega)]
      exact ihl
    · refine Ev.succ ?_
      simp only [spec_FirstKnobs.l1, if_pos (show ((J / 2 : Nat) : Int) < (ks.length : Int) by omega), Bool.not_false]
      refine Ev.succ ?_
      simp only [spec_FirstKnobs.j2, if_true]
      by_cases z : J % 2 = 0
      · exact hit (J / 2) 0 (by omega) (by omega)
      · exact fail (J / 2) 0 (by omega) (by omega) (hit (J / 2) 1 (by omega) (by omega))
end Go.Proofs.Ytiacdekbleebjaa.GJ
namespace Go.Proofs.Ytiacdekbleebjaa.GB
open Go.RowKit Go.Proofs.Ytiacdekbleebjaa.P Go.Proofs.Ytiacdekbleebjaa.B Go.Proofs.Ytiacdekbleebjaa.C Go.Proofs.Ytiacdekbleebjaa.L Go.Proofs.Ytiacdekbleebjaa.A Go.Proofs.Ytiacdekbleebjaa.O Go.Proofs.Ytiacdekbleebjaa.O2 Go.Proofs.Ytiacdekbleebjaa.O3 Go.Proofs.Ytiacdekbleebjaa.R Go.Proofs.Ytiacdekbleebjaa.RS Go.Proofs.Ytiacdekbleebjaa.D2 Go.Proofs.Ytiacdekbleebjaa.NX Go.Proofs.Ytiacdekbleebjaa.DE Go.Proofs.Ytiacdekbleebjaa.GE Go.Proofs.Ytiacdekbleebjaa.Q Go.Proofs.Ytiacdekbleebjaa.FF Go.Proofs.Ytiacdekbleebjaa.FS Go.Proofs.Ytiacdekbleebjaa.GF Go.Proofs.Ytiacdekbleebjaa.GS Go.Proofs.Ytiacdekbleebjaa.ND Go.Proofs.Ytiacdekbleebjaa.GK Go.Proofs.Ytiacdekbleebjaa.GJ Go.Proofs.YtiacdekbleebjaaW.PrintWords Go.Proofs.YtiacdekbleebjaaW.PrintLast Go.Proofs.YtiacdekbleebjaaW.PrintMore
set_option linter.unusedVariables false
set_option linter.unusedSimpArgs false
def gkOk (W D : Int) (ks : List (List Int)) (c d : ByteArray) : Bool := gearB W D ks && (isC W D c && isC W D d)
def gkR (W D : Int) (ks : List (List Int)) (c d : ByteArray) : List S48 × Bool := if gkOk W D ks c d = true then (if dt (tbK W D ks (no D d)) (no D c) < 0 then ([], false) else ((gwy (nbK W D ks) (tbK W D ks (no D d)) (dt (tbK W D ks (no D d)) (no D c)).toNat (no D c)).map trn, true)) else ([], false)
theorem joTwo_ev (W D : Int) (ks : List (List Int)) (c d : ByteArray) (hk : ks.length ≤ 9223372036854775807) (hc : c.size ≤ 140737488351232) (hd : d.size ≤ 140737488351232) : Ev (fun k => spec_joTwo.f k W D ks c d) (gkOk W D ks c d) := by
  unfold spec_joTwo.f spec_joCode.f gkOk
  by_cases h : gearB W D ks = true
  · have dd := LK.d (gear_rk h).1.1
    have g := joGood_ev W D ks hk
    rw [h] at g ⊢
    refine Ev.bind (a := isC W D c) (Ev.bind g ?_) ?_
    · simp only [if_true]
      exact Ev.bind (whCode_ev dd c hc) (Ev.now _)
    · rw [Bool.true_and]
      by_cases q : isC W D c = true
      · simp only [q, if_true, Bool.true_and]
        exact Ev.bind (whCode_ev dd d hd) (Ev.now _)
      · simp only [Bool.eq_false_iff.mpr q, Bool.false_eq_true, if_false, Bool.false_and]
        exact Ev.now _
  · have g := joGood_ev W D ks hk
    rw [Bool.eq_false_iff.mpr h] at g ⊢
    refine Ev.bind (a := false) (Ev.bind g ?_) ?_
    · simp only [Bool.false_eq_true, if_false]; exact Ev.now _
    · simp only [Bool.false_eq_true, if_false, Bool.false_and]; exact Ev.now _
theorem geared_ev (W D : Int) (ks : List (List Int)) (c d : ByteArray) (hk : ks.length ≤ 9223372036854775807) (hc : c.size ≤ 140737488351232) (hd : d.size ≤ 140737488351232) : Ev (fun k => impl_geared.f k W D ks [c, d]) (gkOk W D ks c d) := by
  unfold impl_geared.f gkOk
  have g := areGears_ev W D ks hk
  refine Ev.bind g ?_
  by_cases h : gearB W D ks = true
  · have hh := has_ev W D [c, d] (by simp) (fun s hs' => by
      simp only [List.mem_cons, List.not_mem_nil, or_false] at hs'
      rcases hs' with rfl | rfl
      · exact hc
      · exact hd)
    have e : (decide (LK W D) && [c, d].all (isC W D)) = (isC W D c && isC W D d) := by rw [decide_eq_true (gear_rk h).1.1]; simp
    rw [e] at hh
    simp only [h, if_true, Bool.true_and]
    exact Ev.bind hh (Ev.now _)
  · simp only [Bool.eq_false_iff.mpr h, Bool.false_eq_true, if_false, Bool.false_and]; exact Ev.now _
theorem knobs_both (W D : Int) (ks : List (List Int)) (c d : ByteArray) (hk : ks.length ≤ 9223372036854775807) (hc : c.size ≤ 140737488351232) (hd : d.size ≤ 140737488351232) :
    Ev (fun k => spec_FirstKnobs.f k W D ks c d) (gkR W D ks c d) ∧ Ev (fun k => impl_FirstKnobs.f k W D ks c d) (gkR W D ks c d) := by
  have a1 := joTwo_ev W D ks c d hk hc hd
  have a2 := geared_ev W D ks c d hk hc hd
  unfold spec_FirstKnobs.f impl_FirstKnobs.f gkR
  by_cases q : gkOk W D ks c d = true
  · rw [q] at a1 a2
    simp only [if_pos q]
    unfold gkOk at q
    rw [Bool.and_eq_true, Bool.and_eq_true] at q
    obtain ⟨g, i1, i2⟩ := q
    have h := (gear_rk g).1.1
    have hf := no_lt h i1
    have ht := no_lt h i2
    have e1 := co_no h i1
    have e2 := co_no h i2
    obtain ⟨f, ef⟩ : ∃ f, no D c = f := ⟨_, rfl⟩
    obtain ⟨t, et⟩ : ∃ t, no D d = t := ⟨_, rfl⟩
    rw [ef] at hf e1 ⊢
    rw [et] at ht e2 ⊢
    rw [← e1, ← e2] at a1 a2 ⊢
    have T := tbK_tab (gear_w g) ht
    have len := T.len
    have bd := T.bd f
    have hN := NN_cnt h
    have cb := cnt_bd h
    constructor
    · refine Ev.bind a1 ?_
      simp only [if_true]
      refine Ev.bind (jfar_ev (gear_w g) ht) (Ev.bind (whNumber_co h hf) ?_)
      simp only [len, if_pos (show (0 : Int) ≤ (f : Int) by omega), if_pos (show (f : Int) < ((NN W D : Nat) : Int) by omega), rd_dt (show f < (tbK W D ks t).length by omega)]
      by_cases y : dt (tbK W D ks t) f < 0
      · simp only [if_pos y]; exact Ev.now _
      · simp only [if_neg y]
        obtain ⟨n, hn⟩ : ∃ n : Nat, dt (tbK W D ks t) f = (n : Int) := ⟨(dt (tbK W D ks t) f).toNat, by omega⟩
        rw [hn, Int.toNat_natCast]
        have := jk_ev (gear_w g) ht n f [] hf hn (by simp only [List.length_nil]; omega)
        rw [List.nil_append] at this
        exact this
    · refine Ev.bind a2 ?_
      simp only [if_true]
      refine Ev.bind (gfar_ev (gear_w g) ht) (Ev.bind (number_co h hf) ?_)
      simp only [len, if_pos (show (0 : Int) ≤ (f : Int) by omega), if_pos (show (f : Int) < ((NN W D : Nat) : Int) by omega), rd_dt (show f < (tbK W D ks t).length by omega)]
      by_cases y : dt (tbK W D ks t) f < 0
      · simp only [if_pos y]; exact Ev.now _
      · simp only [if_neg y]
        obtain ⟨n, hn⟩ : ∃ n : Nat, dt (tbK W D ks t) f = (n : Int) := ⟨(dt (tbK W D ks t) f).toNat, by omega⟩
        rw [hn, Int.toNat_natCast]
        have := gk_ev (gear_w g) ht n f [] hf hn (by simp only [List.length_nil]; omega)
        rw [List.nil_append] at this
        exact this
  · rw [Bool.eq_false_iff.mpr q] at a1 a2
    simp only [if_neg q]
    refine ⟨Ev.bind a1 ?_, Ev.bind a2 ?_⟩
    · simp only [Bool.false_eq_true, if_false]; exact Ev.now _
    · simp only [Bool.false_eq_true, if_false]; exact Ev.now _
end Go.Proofs.Ytiacdekbleebjaa.GB
namespace Go.Proofs.Ytiacdekbleebjaa.TF
open Go.RowKit Go.Proofs.Ytiacdekbleebjaa.P Go.Proofs.Ytiacdekbleebjaa.B Go.Proofs.Ytiacdekbleebjaa.C Go.Proofs.Ytiacdekbleebjaa.L Go.Proofs.Ytiacdekbleebjaa.A Go.Proofs.Ytiacdekbleebjaa.O Go.Proofs.Ytiacdekbleebjaa.O2 Go.Proofs.Ytiacdekbleebjaa.R Go.Proofs.Ytiacdekbleebjaa.RS Go.Proofs.Ytiacdekbleebjaa.D2 Go.Proofs.Ytiacdekbleebjaa.NX Go.Proofs.Ytiacdekbleebjaa.DE Go.Proofs.Ytiacdekbleebjaa.GE Go.Proofs.Ytiacdekbleebjaa.Q Go.Proofs.Ytiacdekbleebjaa.FF Go.Proofs.Ytiacdekbleebjaa.FS Go.Proofs.Ytiacdekbleebjaa.GF Go.Proofs.Ytiacdekbleebjaa.GS Go.Proofs.Ytiacdekbleebjaa.ND Go.Proofs.Ytiacdekbleebjaa.GK Go.Proofs.Ytiacdekbleebjaa.GB Go.Proofs.YtiacdekbleebjaaW.PrintWords Go.Proofs.YtiacdekbleebjaaW.PrintLast Go.Proofs.YtiacdekbleebjaaW.PrintMore
set_option linter.unusedVariables false
set_option linter.unusedSimpArgs false
theorem kt_lens (D : Int) (k a : List Int) (t : Int) : (kt D k t a).length = min a.length k.length := by unfold kt; rw [List.length_zipWith]
theorem kt_add (D : Int) (k a : List Int) (t t' : Int) : kt D k t (kt D k t' a) = kt D k (t' + t) a := by
  refine List.ext_getElem (by simp only [kt_lens]; omega) fun i h1 h2 => ?_
  rw [kt_get, kt_get, kt_get, Int.emod_add_emod, Int.add_mul, Int.add_assoc]
theorem kt_comm (D : Int) (k k' a : List Int) (t t' : Int) (hl : k.length = k'.length) : kt D k t (kt D k' t' a) = kt D k' t' (kt D k t a) := by
  refine List.ext_getElem (by simp only [kt_lens]; omega) fun i h1 h2 => ?_
  rw [kt_get, kt_get, kt_get, kt_get, Int.emod_add_emod, Int.emod_add_emod, Int.add_right_comm]
theorem kt_mod (D : Int) (k a : List Int) (t : Int) : kt D k (t % D) a = kt D k t a := by
  refine List.ext_getElem (by simp only [kt_lens]) fun i h1 h2 => ?_
  rw [kt_get, kt_get]
  have e : ∀ x y : Int, (x + (t % D) * y) % D = (x + t * y) % D := fun x y => by
    have h := Int.mul_ediv_add_emod t D
    have : x + t * y = x + (t % D) * y + D * (t / D * y) := by
      rw [Int.add_assoc, ← Int.mul_assoc D, ← Int.add_mul, Int.add_comm (t % D), h]
    rw [this, Int.add_mul_emod_self_left]
  exact e _ _
theorem kt_zero {D : Int} {k a : List Int} (ha : IsD D a) (hl : k.length = a.length) : kt D k 0 a = a := by
  refine List.ext_getElem (by rw [kt_lens]; omega) fun i h1 h2 => ?_
  rw [kt_get, Int.zero_mul, Int.add_zero]
  have := IsD.get ha h2
  exact Int.emod_eq_of_lt this.1 this.2
/-- The digits behind so many turns of each knob. -/
def aft (D : Int) : List (List Int) → List Int → List Int → List Int
  | k :: ks, t :: ts, a => aft D ks ts (kt D k t a)
  | _, _, a => a
theorem kt_aft (D : Int) (k : List Int) (e : Int) {w : Nat} (hk : k.length = w) : ∀ (ks : List (List Int)) (ts a : List Int), (∀ x ∈ ks, x.length = w) → kt D k e (aft D ks ts a) = aft D ks ts (kt D k e a)
  | [], ts, a, h => by unfold aft; rfl
  | x :: ks, [], a, h => by unfold aft; rfl
  | x :: ks, t :: ts, a, h => by
    have l := h x (List.mem_cons_self ..)
    show kt D k e (aft D ks ts (kt D x t a)) = aft D ks ts (kt D x t (kt D k e a))
    rw [kt_aft D k e hk ks ts _ (fun y hy => h y (List.mem_cons_of_mem _ hy)), kt_comm D k x a e t (by omega)]
theorem aft_set (D : Int) {w : Nat} (e : Int) : ∀ (ks : List (List Int)) (ts a : List Int) (i : Nat), (∀ x ∈ ks, x.length = w) → i < ks.length → ts.length = ks.length → kt D (kn ks i) e (aft D ks ts a) = aft D ks (ts.set i ((ts.getD i 0 + e) % D)) a
  | [], ts, a, i, h, hi, hl => by simp at hi
  | x :: ks, [], a, i, h, hi, hl => by simp at hl
  | x :: ks, t :: ts, a, 0, h, hi, hl => by
    have l := h x (List.mem_cons_self ..)
    show kt D x e (aft D ks ts (kt D x t a)) = aft D ks ts (kt D x ((t + e) % D) a)
    rw [kt_aft D x e l ks ts _ (fun y hy => h y (List.mem_cons_of_mem _ hy)), kt_add, kt_mod]
  | x :: ks, t :: ts, a, i + 1, h, hi, hl => by
    show kt D (kn ks i) e (aft D ks ts (kt D x t a)) = aft D ks (ts.set i ((ts.getD i 0 + e) % D)) (kt D x t a)
    exact aft_set D e ks ts _ i (fun y hy => h y (List.mem_cons_of_mem _ hy)) (by simpa using hi) (by simpa using hl)
theorem aft_zero {D : Int} {w : Nat} : ∀ (ks : List (List Int)) (a : List Int), (∀ x ∈ ks, x.length = w) → IsD D a → a.length = w → aft D ks (List.replicate ks.length 0) a = a
  | [], a, h, ha, hl => by unfold aft; rfl
  | x :: ks, a, h, ha, hl => by
    have l := h x (List.mem_cons_self ..)
    show aft D ks (List.replicate ks.length 0) (kt D x 0 a) = a
    rw [kt_zero ha (by omega)]
    exact aft_zero ks a (fun y hy => h y (List.mem_cons_of_mem _ hy)) ha hl
def fnd (D : Int) (b : List Int) : List (List Int) → List Int → Option (List Int)
  | [], a => if a = b then some [] else none
  | k :: ks, a => (List.range D.toNat).findSome? fun n : Nat => (fnd D b ks (kt D k (n : Int) a)).map fun ts => (n : Int) :: ts
theorem fnd_some {D : Int} {b : List Int} (hD : 0 ≤ D) : ∀ (ks : List (List Int)) (a ts : List Int), fnd D b ks a = some ts → ts.length = ks.length ∧ IsD D ts ∧ aft D ks ts a = b
  | [], a, ts, h => by
    unfold fnd at h
    by_cases e : a = b
    · rw [if_pos e] at h
      obtain rfl := Option.some.inj h
      exact ⟨rfl, IsD.nil, by unfold aft; exact e⟩
    · rw [if_neg e] at h; cases h
  | k :: ks, a, ts, h => by
    unfold fnd at h
    obtain ⟨n, hn, e⟩ := List.exists_of_findSome?_eq_some h
    obtain ⟨us, hu, e2⟩ := Option.map_eq_some_iff.mp e
    obtain ⟨i1, i2, i3⟩ := fnd_some hD ks _ us hu
    have := List.mem_range.mp hn
    subst e2
    exact ⟨by simp [i1], IsD.mk (by omega) i2, i3⟩
theorem fnd_is {D : Int} {b : List Int} (hD : 0 ≤ D) : ∀ (ks : List (List Int)) (a ts : List Int), ts.length = ks.length → IsD D ts → aft D ks ts a = b → (fnd D b ks a).isSome = true
  | [], a, ts, hl, hi, e => by
    have : ts = [] := List.length_eq_zero_iff.mp (by simpa using hl)
    subst this
    unfold aft at e
    unfold fnd
    rw [if_pos e]; rfl
  | k :: ks, a, [], hl, hi, e => by simp at hl
  | k :: ks, a, t :: ts, hl, hi, e => by
    obtain ⟨ht, hts⟩ := IsD.cons hi
    have ih := fnd_is hD ks (kt D k t a) ts (by simpa using hl) hts e
    unfold fnd
    rw [List.findSome?_isSome_iff]
    refine ⟨t.toNat, List.mem_range.mpr (by omega), ?_⟩
    rw [Int.toNat_of_nonneg ht.1, Option.isSome_map]
    exact ih
theorem cod_nb {W D : Int} {ks : List (List Int)} (h : gearW W D ks) {u v : Nat} (hm : v ∈ nbK W D ks u) : ∃ m, m < 2 * ks.length ∧ cod D W.toNat (v : Int) = ktn W D ks u m := by
  obtain ⟨hr, hkn, _⟩ := gear_wk h
  have dd := LK.d hr.1
  obtain ⟨m, hl, e⟩ := List.mem_iff_getElem.mp hm
  have hl2 : m < 2 * ks.length := by rw [nbK_len] at hl; exact hl
  obtain ⟨i1, i2, i3, i4⟩ := ktn_ok h u hl2
  rw [nbK_at] at e
  refine ⟨m, hl2, ?_⟩
  have q := cod_num (D := D) (by omega) _ i1
  rw [i2] at q
  rw [← e, Int.toNat_of_nonneg i3, q]
theorem klen {W D : Int} {ks : List (List Int)} (h : gearW W D ks) : ∀ k ∈ ks, k.length = W.toNat := fun k hk => by
  have := (gear_wk h).2.2 k hk
  have := LK.w (gear_wk h).1.1
  omega
theorem reach_to {W D : Int} {ks : List (List Int)} (h : gearW W D ks) {s : Nat} : ∀ {v n : Nat}, Q.Way (nbK W D ks) al s v n → ∃ ts, ts.length = ks.length ∧ IsD D ts ∧ aft D ks ts (cod D W.toNat (s : Int)) = cod D W.toNat (v : Int) := by
  intro v n w
  have dd := LK.d (gear_wk h).1.1
  have kl := klen h
  induction w with
  | nil => exact ⟨List.replicate ks.length 0, by simp, fun x hx => by rw [List.eq_of_mem_replicate hx]; omega, aft_zero ks _ kl (cod_isD (by omega) _ _) (cod_len _ _ _)⟩
  | snoc w hv hl ih =>
    obtain ⟨ts, t1, t2, t3⟩ := ih
    obtain ⟨m, hm, e⟩ := cod_nb h hv
    refine ⟨ts.set (m / 2) ((ts.getD (m / 2) 0 + (trn m).f1) % D), by rw [List.length_set]; exact t1, fun x hx => ?_, ?_⟩
    · rcases List.mem_or_eq_of_mem_set hx with q | q
      · exact t2 x q
      · rw [q]; exact ⟨Int.emod_nonneg _ (by omega), Int.emod_lt_of_pos _ (by omega)⟩
    · rw [← aft_set D (trn m).f1 ks ts _ (m / 2) kl (by omega) t1, t3, e]
      rfl
theorem reach_of {W D : Int} {ks : List (List Int)} (h : gearW W D ks) {s : Nat} (hs : s < NN W D) (ts : List Int) (ht : IsD D ts) : 0 ≤ dt (tbK W D ks s) (num D (aft D ks ts (cod D W.toNat (s : Int)))).toNat := by
  obtain ⟨hr, hkn, _⟩ := gear_wk h
  have dd := LK.d hr.1
  have kl := klen h
  have T := tbK_tab h hs
  have hc := NN_cnt hr.1
  have ec : cnt W D = D ^ W.toNat := rfl
  have st1 : ∀ (k : List Int) (a : List Int), k ∈ ks → IsD D a → a.length = W.toNat → 0 ≤ dt (tbK W D ks s) (num D a).toNat → 0 ≤ dt (tbK W D ks s) (num D (kt D k 1 a)).toNat := by
    intro k a hk ha hl hd
    obtain ⟨i, hi, e⟩ := List.mem_iff_getElem.mp hk
    have b := num_bd (D := D) (by omega) a ha
    have ca : cod D W.toNat (((num D a).toNat : Nat) : Int) = a := by
      rw [Int.toNat_of_nonneg b.1, ← hl]; exact cod_num (by omega) a ha
    have hm : 2 * i < (nbK W D ks (num D a).toNat).length := by rw [nbK_len]; omega
    have := (T.step (num D a).toNat _ hd (List.getElem_mem hm) rfl).1
    rw [nbK_at] at this
    unfold ktn at this
    rw [ca, show 2 * i / 2 = i by omega, kn_get ks hi, e, show (trn (2 * i)).f1 = 1 by simp only [trn, show (2 * i) % 2 = 0 by omega, if_true]] at this
    exact this
  have stn : ∀ (k : List Int), k ∈ ks → ∀ (n : Nat) (a : List Int), IsD D a → a.length = W.toNat → 0 ≤ dt (tbK W D ks s) (num D a).toNat → 0 ≤ dt (tbK W D ks s) (num D (kt D k (n : Int) a)).toNat := by
    intro k hk n a ha hl hd
    have l := kl k hk
    induction n with
    | zero => rw [show ((0 : Nat) : Int) = 0 from rfl, kt_zero ha (by omega)]; exact hd
    | succ n ih =>
      have e := kt_add D k a 1 (n : Int)
      rw [show ((n + 1 : Nat) : Int) = (n : Int) + 1 by omega, ← e]
      exact st1 k _ hk (kt_isD (by omega) _ _ _) (by rw [kt_len (by omega)]; exact hl) ih
  have all : ∀ (ks' : List (List Int)) (ts a : List Int), (∀ k ∈ ks', k ∈ ks) → IsD D ts → IsD D a → a.length = W.toNat → 0 ≤ dt (tbK W D ks s) (num D a).toNat → 0 ≤ dt (tbK W D ks s) (num D (aft D ks' ts a)).toNat := by
    intro ks'
    induction ks' with
    | nil => intro ts a _ _ ha hl hd; unfold aft; exact hd
    | cons k ks' ih =>
      intro ts a hk hts ha hl hd
      cases ts with
      | nil => unfold aft; exact hd
      | cons t ts =>
        obtain ⟨h0, h1⟩ := IsD.cons hts
        have mk := hk k (List.mem_cons_self ..)
        have l := kl k mk
        have := stn k mk t.toNat a ha hl hd
        rw [Int.toNat_of_nonneg h0.1] at this
        exact ih ts _ (fun x hx => hk x (List.mem_cons_of_mem _ hx)) h1 (kt_isD (by omega) _ _ _) (by rw [kt_len (by omega)]; exact hl) this
  refine all ks ts _ (fun _ hk => hk) ht (cod_isD (by omega) _ _) (cod_len _ _ _) ?_
  rw [num_cod (by omega), Int.emod_eq_of_lt (by omega) (by omega), Int.toNat_natCast, T.start]
  omega
theorem reach_iff {W D : Int} {ks : List (List Int)} (h : gearW W D ks) {s t : Nat} (hs : s < NN W D) (ht : t < NN W D) : 0 ≤ dt (tbK W D ks s) t ↔ (fnd D (cod D W.toNat (t : Int)) ks (cod D W.toNat (s : Int))).isSome = true := by
  have T := tbK_tab h hs
  have dd := LK.d (gear_wk h).1.1
  have hc := NN_cnt (gear_wk h).1.1
  have ec : cnt W D = D ^ W.toNat := rfl
  constructor
  · intro q
    obtain ⟨n, w⟩ := (T.iff t).mp q
    obtain ⟨ts, t1, t2, t3⟩ := reach_to h w
    exact fnd_is (by omega) ks _ ts t1 t2 t3
  · intro q
    obtain ⟨ts, e⟩ := Option.isSome_iff_exists.mp q
    obtain ⟨t1, t2, t3⟩ := fnd_some (by omega) ks _ ts e
    have := reach_of h hs ts t2
    rw [t3, num_cod (by omega), Int.emod_eq_of_lt (by omega) (by omega), Int.toNat_natCast] at this
    exact this
def pair1 (out : List Int) : Option (List Int) → Bool × List Int
  | some ts => (true, out ++ ts)
  | none => (false, out)
theorem put_ev {W D : Int} {ks : List (List Int)} (h : gearW W D ks) {b : List Int} (hb : IsD D b) (lb : b.length = W.toNat) : ∀ (d : Nat) (out a : List Int), out.length + d = ks.length → IsD D a → a.length = W.toNat →
    Ev (fun k => impl_TimesFor.put k W D ks (txt b) out (txt a)) (pair1 out (fnd D b (ks.drop out.length) a))
  | 0, out, a, ho, ha, la => by
    have dd := LK.d (gear_wk h).1.1
    refine Ev.succ ?_
    simp only [impl_TimesFor.put, if_pos (show (out.length : Int) = (ks.length : Int) by omega)]
    rw [List.drop_of_length_le (by omega)]
    unfold fnd
    by_cases e : a = b
    · rw [if_pos e, e, beq_self_eq_true]
      simp only [pair1, List.append_nil]
      exact Ev.now _
    · rw [if_neg e, beq_eq_false_iff_ne.mpr (fun q => e (txt_inj (IsD.mono ha dd.2) (IsD.mono hb dd.2) (toList_inj.mp q)))]
      exact Ev.now _
  | d + 1, out, a, ho, ha, la => by
    obtain ⟨hr, hkn, _⟩ := gear_wk h
    have hk := hr.1
    have dd := LK.d hk
    have hw := LK.w hk
    have hj : out.length < ks.length := by omega
    have kl := klen h (kn ks out.length) (by rw [kn_get ks hj]; exact List.getElem_mem hj)
    refine Ev.succ ?_
    simp only [impl_TimesFor.put, if_neg (show ¬ (out.length : Int) = (ks.length : Int) by omega)]
    rw [List.drop_eq_getElem_cons hj, ← kn_get ks hj]
    unfold fnd
    obtain ⟨g, hg⟩ : ∃ g : Nat → Option (List Int), g = fun n : Nat => (fnd D b (ks.drop (out.length + 1)) (kt D (kn ks out.length) (n : Int) a)).map fun ts => (n : Int) :: ts := ⟨_, rfl⟩
    have rl : (List.range D.toNat).length = D.toNat := List.length_range
    have key := ev_down (g := fun j k => impl_TimesFor.rep k W D ks (txt b) out.length out (txt a) (j : Int)) (R := fun j => pair1 out (((List.range D.toNat).drop j).findSome? g)) D.toNat ?_ ?_
    · rw [hg] at key
      exact key
    · intro j hjd ih
      have hd1 : j < (List.range D.toNat).length := by omega
      rw [List.drop_eq_getElem_cons hd1, List.getElem_range, List.findSome?_cons]
      refine Ev.succ ?_
      simp only [impl_TimesFor.rep, if_pos (show (j : Int) < D by omega), if_pos (show out.length < 17592186044000 by omega)]
      refine Ev.bind (knobTurned_ev h ha (by omega) hj (by omega)) ?_
      have ip := put_ev h hb lb d (out ++ [(j : Int)]) (kt D (kn ks out.length) (j : Int) a) (by rw [List.length_append]; simp only [List.length_cons, List.length_nil]; omega) (kt_isD (by omega) _ _ _) (by rw [kt_len (by omega)]; exact la)
      rw [show (out ++ [(j : Int)]).length = out.length + 1 by simp] at ip
      refine Ev.bind ip ?_
      have gj : g j = (fnd D b (ks.drop (out.length + 1)) (kt D (kn ks out.length) (j : Int) a)).map fun ts => (j : Int) :: ts := by rw [hg]
      rw [gj]
      cases e : fnd D b (ks.drop (out.length + 1)) (kt D (kn ks out.length) (j : Int) a) with
      | some ts =>
        simp only [pair1, Option.map_some, if_true]
        rw [show out ++ [(j : Int)] ++ ts = out ++ (j : Int) :: ts by rw [List.append_assoc]; rfl]
        exact Ev.now _
      | none =>
        simp only [pair1, Option.map_none, Bool.false_eq_true, if_false, List.length_append, List.length_cons, List.length_nil, if_pos (show out.length ≤ out.length + (0 + 1) by omega), w64 (x := (j : Int) + 1) (by omega) (by omega)]
        rw [List.take_left' rfl]
        exact ih
    · refine Ev.succ ?_
      simp only [impl_TimesFor.rep, if_neg (show ¬ ((D.toNat : Nat) : Int) < D by omega)]
      rw [List.drop_of_length_le (by omega)]
      exact Ev.now _
theorem l1Own_eq (l : List Int) (hl : l.length < 17592186044416) : spec_l1Own.f l = some l := by
  unfold spec_l1Own.f
  simp only [Option.bind_some, List.length_nil, Nat.zero_add, if_pos hl, List.nil_append]
theorem joTimes_ev {W D : Int} {ks : List (List Int)} (h : gearW W D ks) {b : List Int} (hb : IsD D b) (lb : b.length = W.toNat) : ∀ (d : Nat) (out a : List Int), out.length + d = ks.length → IsD D a → a.length = W.toNat →
    ∃ x : List Int × Bool, Ev (fun k => spec_joTimes.f k W D ks (txt a) (txt b) out) x ∧ (∀ ts, fnd D b (ks.drop out.length) a = some ts → x = (out ++ ts, true)) ∧ (fnd D b (ks.drop out.length) a = none → x.2 = false)
  | 0, out, a, ho, ha, la => by
    have dd := LK.d (gear_wk h).1.1
    refine ⟨(out, (txt a).toList == (txt b).toList), Ev.succ ?_, ?_⟩
    · simp only [spec_joTimes.f, if_pos (show (out.length : Int) = (ks.length : Int) by omega)]
      exact Ev.now _
    · rw [List.drop_of_length_le (by omega)]
      unfold fnd
      by_cases e : a = b
      · rw [if_pos e]
        refine ⟨fun ts q => ?_, fun q => by cases q⟩
        obtain rfl := Option.some.inj q
        rw [e, beq_self_eq_true, List.append_nil]
      · rw [if_neg e]
        exact ⟨fun ts q => (by cases q), fun _ => beq_eq_false_iff_ne.mpr (fun q => e (txt_inj (IsD.mono ha dd.2) (IsD.mono hb dd.2) (toList_inj.mp q)))⟩
  | d + 1, out, a, ho, ha, la => by
    obtain ⟨hr, hkn, _⟩ := gear_wk h
    have hk := hr.1
    have dd := LK.d hk
    have hw := LK.w hk
    have hc := NN_cnt hk
    have ec : cnt W D = D ^ W.toNat := rfl
    have cb := cnt_bd hk
    have hj : out.length < ks.length := by omega
    have kl := klen h (kn ks out.length) (by rw [kn_get ks hj]; exact List.getElem_mem hj)
    have h1 := gear_drop h (out.length + 1)
    obtain ⟨rs, ers⟩ : ∃ rs, ks.drop (out.length + 1) = rs := ⟨_, rfl⟩
    rw [ers] at h1
    have bb := num_bd (D := D) (by omega) b hb
    rw [lb] at bb
    have tb : txt b = co W D (num D b).toNat := by
      show _ = txt (cod D W.toNat (((num D b).toNat : Nat) : Int))
      rw [Int.toNat_of_nonneg bb.1, ← lb, cod_num (by omega) b hb]
    have cB : cod D W.toNat (((num D b).toNat : Nat) : Int) = b := by rw [Int.toNat_of_nonneg bb.1, ← lb]; exact cod_num (by omega) b hb
    have nbl : (num D b).toNat < NN W D := by omega
    have key : ∀ (m j : Nat), j + m = D.toNat → ∃ x : List Int × Bool, Ev (fun k => spec_joTimes.l0 k (txt a) (txt b) out (j : Int) W D ks W D rs) x ∧
        (∀ ts, (((List.range D.toNat).drop j).findSome? fun n : Nat => (fnd D b rs (kt D (kn ks out.length) (n : Int) a)).map fun us => (n : Int) :: us) = some ts → x = (out ++ ts, true)) ∧ ((((List.range D.toNat).drop j).findSome? fun n : Nat => (fnd D b rs (kt D (kn ks out.length) (n : Int) a)).map fun us => (n : Int) :: us) = none → x.2 = false) := by
      intro m
      induction m with
      | zero =>
        intro j hjm
        refine ⟨([], false), Ev.succ ?_, ?_⟩
        · simp only [spec_joTimes.l0, if_neg (show ¬ (j : Int) < D by omega)]
          exact Ev.now _
        · rw [List.drop_of_length_le (by rw [List.length_range]; omega)]
          exact ⟨fun ts q => (by cases q), fun _ => rfl⟩
      | succ m ih =>
        intro j hjm
        have hd1 : j < (List.range D.toNat).length := by rw [List.length_range]; omega
        rw [List.drop_eq_getElem_cons hd1, List.getElem_range, List.findSome?_cons]
        obtain ⟨a', ea⟩ : ∃ a', kt D (kn ks out.length) (j : Int) a = a' := ⟨_, rfl⟩
        have ia : IsD D a' := by rw [← ea]; exact kt_isD (by omega) _ _ _
        have la' : a'.length = W.toNat := by rw [← ea, kt_len (by omega)]; exact la
        have jt := joTurn_ev h ha (by omega) hj (t := (j : Int)) (by omega)
        rw [ea] at jt
        have ba := num_bd (D := D) (by omega) a' ia
        rw [la'] at ba
        have cA : cod D W.toNat (((num D a').toNat : Nat) : Int) = a' := by rw [Int.toNat_of_nonneg ba.1, ← la']; exact cod_num (by omega) a' ia
        have nal : (num D a').toNat < NN W D := by omega
        have jf := jfar_ev h1 nal
        rw [show co W D (num D a').toNat = txt a' by show txt (cod D W.toNat (((num D a').toNat : Nat) : Int)) = _; rw [cA]] at jf
        have nu := whNumber_co hk nbl
        rw [← tb] at nu
        have T := tbK_tab h1 nal
        have len := T.len
        have ri := reach_iff h1 nal nbl
        rw [cB, cA] at ri
        rw [ea]
        cases e : fnd D b rs a' with
        | some us =>
          rw [e] at ri
          have pos := ri.mpr rfl
          obtain ⟨x, hx, x1, _⟩ := joTimes_ev h hb lb d (out ++ [(j : Int)]) a' (by rw [List.length_append]; simp only [List.length_cons, List.length_nil]; omega) ia la'
          rw [show (out ++ [(j : Int)]).length = out.length + 1 by simp, ers] at x1
          have ex := x1 us e
          refine ⟨x, Ev.succ ?_, ?_⟩
          · simp only [spec_joTimes.l0, if_pos (show (j : Int) < D by omega)]
            refine Ev.bind jt (Ev.bind jf (Ev.bind nu ?_))
            simp only [if_pos (show (0 : Int) ≤ (((num D b).toNat : Nat) : Int) by omega), len, if_pos (show (((num D b).toNat : Nat) : Int) < ((NN W D : Nat) : Int) by omega), rd_dt (show (num D b).toNat < (tbK W D rs (num D a').toNat).length by omega), if_pos (show dt (tbK W D rs (num D a').toNat) (num D b).toNat ≥ 0 from pos), l1Own_eq out (by omega), Option.bind_some, List.length_cons, List.length_nil, if_pos (show out.length + (0 + 1) < 17592186044416 by omega)]
            exact Ev.bind hx (Ev.now _)
          · simp only [Option.map_some]
            refine ⟨fun ts q => ?_, fun q => by cases q⟩
            obtain rfl := Option.some.inj q
            rw [ex, List.append_assoc]; rfl
        | none =>
          rw [e] at ri
          have neg : ¬ 0 ≤ dt (tbK W D rs (num D a').toNat) (num D b).toNat := fun q => absurd (ri.mp q) (by decide)
          obtain ⟨x, hx, x1, x2⟩ := ih (j + 1) (by omega)
          refine ⟨x, Ev.succ ?_, ?_⟩
          · simp only [spec_joTimes.l0, if_pos (show (j : Int) < D by omega)]
            refine Ev.bind jt (Ev.bind jf (Ev.bind nu ?_))
            simp only [if_pos (show (0 : Int) ≤ (((num D b).toNat : Nat) : Int) by omega), len, if_pos (show (((num D b).toNat : Nat) : Int) < ((NN W D : Nat) : Int) by omega), rd_dt (show (num D b).toNat < (tbK W D rs (num D a').toNat).length by omega), if_neg (show ¬ dt (tbK W D rs (num D a').toNat) (num D b).toNat ≥ 0 from neg), w64 (x := (j : Int) + 1) (by omega) (by omega)]
            exact hx
          · simp only [Option.map_none]
            exact ⟨x1, x2⟩
    obtain ⟨x, hx, x1, x2⟩ := key D.toNat 0 (by omega)
    rw [List.drop_zero] at x1 x2
    refine ⟨x, Ev.succ ?_, ?_⟩
    · simp only [spec_joTimes.f, if_neg (show ¬ (out.length : Int) = (ks.length : Int) by omega), w64 (x := (out.length : Int) + 1) (by omega) (by omega), if_pos (show 0 ≤ (out.length : Int) + 1 by omega), if_pos (show (out.length : Int) + 1 ≤ (ks.length : Int) by omega)]
      rw [show ((out.length : Int) + 1).toNat = out.length + 1 by omega, ers]
      exact hx
    · rw [List.drop_eq_getElem_cons hj, ← kn_get ks hj, ers]
      unfold fnd
      exact ⟨x1, x2⟩
def tmR (W D : Int) (ks : List (List Int)) (c d : ByteArray) : List Int × Bool := if gkOk W D ks c d = true then (match fnd D (digs d) ks (digs c) with | some ts => (ts, true) | none => ([], false)) else ([], false)
theorem times_both (W D : Int) (ks : List (List Int)) (c d : ByteArray) (hk : ks.length ≤ 9223372036854775807) (hc : c.size ≤ 140737488351232) (hd : d.size ≤ 140737488351232) :
    Ev (fun k => spec_TimesFor.f k W D ks c d) (tmR W D ks c d) ∧ Ev (fun k => impl_TimesFor.f k W D ks c d) (tmR W D ks c d) := by
  have a1 := joTwo_ev W D ks c d hk hc hd
  have a2 := geared_ev W D ks c d hk hc hd
  unfold spec_TimesFor.f impl_TimesFor.f tmR
  by_cases q : gkOk W D ks c d = true
  · rw [q] at a1 a2
    simp only [if_pos q]
    unfold gkOk at q
    rw [Bool.and_eq_true, Bool.and_eq_true] at q
    obtain ⟨g, i1, i2⟩ := q
    have hw := gear_w g
    have h := (gear_rk g).1.1
    obtain ⟨l1, d1, e1⟩ := codeOf h i1
    obtain ⟨l2, d2, e2⟩ := codeOf h i2
    constructor
    · refine Ev.bind a1 ?_
      simp only [if_true]
      obtain ⟨x, hx, x1, x2⟩ := joTimes_ev hw d2 l2 ks.length [] (digs c) (by simp) d1 l1
      rw [e1, e2] at hx
      rw [List.length_nil, List.drop_zero] at x1 x2
      refine Ev.bind hx ?_
      cases e : fnd D (digs d) ks (digs c) with
      | some ts => rw [x1 ts e]; simp only [if_true, List.nil_append]; exact Ev.now _
      | none => rw [x2 e]; simp only [Bool.false_eq_true, if_false]; exact Ev.now _
    · refine Ev.bind a2 ?_
      simp only [if_true]
      have p := put_ev hw d2 l2 ks.length [] (digs c) (by simp) d1 l1
      rw [e1, e2, List.length_nil, List.drop_zero] at p
      refine Ev.bind p ?_
      cases e : fnd D (digs d) ks (digs c) with
      | some ts => simp only [pair1, if_true, List.nil_append]; exact Ev.now _
      | none => simp only [pair1, Bool.false_eq_true, if_false]; exact Ev.now _
  · rw [Bool.eq_false_iff.mpr q] at a1 a2
    simp only [if_neg q]
    refine ⟨Ev.bind a1 ?_, Ev.bind a2 ?_⟩
    · simp only [Bool.false_eq_true, if_false]; exact Ev.now _
    · simp only [Bool.false_eq_true, if_false]; exact Ev.now _
end Go.Proofs.Ytiacdekbleebjaa.TF
namespace Go.Proofs.Ytiacdekbleebjaa.KT
open Go.RowKit Go.Proofs.Ytiacdekbleebjaa.P Go.Proofs.Ytiacdekbleebjaa.B Go.Proofs.Ytiacdekbleebjaa.C Go.Proofs.Ytiacdekbleebjaa.L Go.Proofs.Ytiacdekbleebjaa.A Go.Proofs.Ytiacdekbleebjaa.O Go.Proofs.Ytiacdekbleebjaa.O2 Go.Proofs.Ytiacdekbleebjaa.O3 Go.Proofs.Ytiacdekbleebjaa.R Go.Proofs.Ytiacdekbleebjaa.RS Go.Proofs.Ytiacdekbleebjaa.D2 Go.Proofs.Ytiacdekbleebjaa.NX Go.Proofs.Ytiacdekbleebjaa.DE Go.Proofs.Ytiacdekbleebjaa.GE Go.Proofs.Ytiacdekbleebjaa.Q Go.Proofs.Ytiacdekbleebjaa.FF Go.Proofs.Ytiacdekbleebjaa.FS Go.Proofs.Ytiacdekbleebjaa.GF Go.Proofs.Ytiacdekbleebjaa.GS Go.Proofs.Ytiacdekbleebjaa.ND Go.Proofs.Ytiacdekbleebjaa.GK Go.Proofs.Ytiacdekbleebjaa.GB Go.Proofs.Ytiacdekbleebjaa.TF Go.Proofs.YtiacdekbleebjaaW.PrintWords Go.Proofs.YtiacdekbleebjaaW.PrintLast Go.Proofs.YtiacdekbleebjaaW.PrintMore
set_option linter.unusedVariables false
set_option linter.unusedSimpArgs false
theorem way_app {nb : Nat → List Nat} {live : Nat → Bool} {s u : Nat} {n : Nat} (w1 : Q.Way nb live s u n) : ∀ {v m : Nat}, Q.Way nb live u v m → Q.Way nb live s v (n + m) := by
  intro v m w
  induction w with
  | nil => exact w1
  | snoc w hv hl ih => exact .snoc ih hv hl
theorem tbK_le {W D : Int} {ks : List (List Int)} (h : gearW W D ks) {s t : Nat} (hs : s < NN W D) (ht : t < NN W D) (hd : 0 ≤ dt (tbK W D ks s) t) : 0 ≤ dt (tbK W D ks t) s ∧ dt (tbK W D ks t) s ≤ dt (tbK W D ks s) t := by
  have T := tbK_tab h hs
  have w := T.way (dt (tbK W D ks s) t).toNat t (by omega)
  obtain ⟨_, _, r⟩ := way_rev (sy_nbK h).symm (sy_nbK h).lt hs rfl w
  have := (tbK_tab h ht).few r
  omega
theorem tbK_symm {W D : Int} {ks : List (List Int)} (h : gearW W D ks) {s t : Nat} (hs : s < NN W D) (ht : t < NN W D) : dt (tbK W D ks s) t = dt (tbK W D ks t) s := by
  have g1 := (tbK_tab h hs).ge t
  have g2 := (tbK_tab h ht).ge s
  by_cases a : 0 ≤ dt (tbK W D ks s) t
  · have x := tbK_le h hs ht a
    have y := tbK_le h ht hs x.1
    omega
  · by_cases b : 0 ≤ dt (tbK W D ks t) s
    · have y := tbK_le h ht hs b
      omega
    · omega
theorem tbK_class {W D : Int} {ks : List (List Int)} (h : gearW W D ks) {s t : Nat} (hs : s < NN W D) (ht : t < NN W D) (hd : 0 ≤ dt (tbK W D ks s) t) (v : Nat) : 0 ≤ dt (tbK W D ks s) v ↔ 0 ≤ dt (tbK W D ks t) v := by
  have T := tbK_tab h hs
  have T2 := tbK_tab h ht
  have hd2 := (tbK_le h hs ht hd).1
  constructor
  · intro q
    obtain ⟨n, w⟩ := (T.iff v).mp q
    obtain ⟨m, w2⟩ := (T2.iff s).mp hd2
    exact (T2.iff v).mpr ⟨_, way_app w2 w⟩
  · intro q
    obtain ⟨n, w⟩ := (T2.iff v).mp q
    obtain ⟨m, w2⟩ := (T.iff t).mp hd
    exact (T.iff v).mpr ⟨_, way_app w2 w⟩
def fewK (W D : Int) (ks : List (List Int)) (c d : ByteArray) : Int × Bool := (((gkR W D ks c d).1.length : Int), (gkR W D ks c d).2)
theorem few_both (W D : Int) (ks : List (List Int)) (c d : ByteArray) (hk : ks.length ≤ 9223372036854775807) (hc : c.size ≤ 140737488351232) (hd : d.size ≤ 140737488351232) :
    Ev (fun k => spec_FewestKnobs.f k W D ks c d) (fewK W D ks c d) ∧ Ev (fun k => impl_FewestKnobs.f k W D ks c d) (fewK W D ks c d) := by
  constructor
  · have a1 := joTwo_ev W D ks c d hk hc hd
    unfold spec_FewestKnobs.f fewK gkR
    by_cases q : gkOk W D ks c d = true
    · rw [q] at a1
      simp only [if_pos q]
      unfold gkOk at q
      rw [Bool.and_eq_true, Bool.and_eq_true] at q
      obtain ⟨g, i1, i2⟩ := q
      have hw := gear_w g
      have h := (gear_rk g).1.1
      have hf := no_lt h i1
      have ht := no_lt h i2
      have sy := tbK_symm hw hf ht
      have T := tbK_tab hw hf
      have len := T.len
      have e1 := co_no h i1
      have e2 := co_no h i2
      refine Ev.bind a1 ?_
      simp only [if_true]
      have jf := jfar_ev hw hf
      rw [e1] at jf
      have nu := whNumber_co h ht
      rw [e2] at nu
      refine Ev.bind jf (Ev.bind nu ?_)
      simp only [len, if_pos (show (0 : Int) ≤ ((no D d : Nat) : Int) by omega), if_pos (show ((no D d : Nat) : Int) < ((NN W D : Nat) : Int) by omega), rd_dt (show no D d < (tbK W D ks (no D c)).length by omega), sy]
      by_cases y : dt (tbK W D ks (no D d)) (no D c) < 0
      · simp only [if_pos y, List.length_nil]; exact Ev.now _
      · simp only [if_neg y, List.length_map, gwy_len]
        rw [Int.toNat_of_nonneg (by omega)]
        exact Ev.now _
    · rw [Bool.eq_false_iff.mpr q] at a1
      simp only [if_neg q, List.length_nil]
      refine Ev.bind a1 ?_
      simp only [Bool.false_eq_true, if_false]
      exact Ev.now _
  · unfold impl_FewestKnobs.f
    exact Ev.bind (knobs_both W D ks c d hk hc hd).2 (Ev.now _)
theorem few_symm (W D : Int) (ks : List (List Int)) (c d : ByteArray) (q : gkOk W D ks c d = true) : fewK W D ks d c = fewK W D ks c d := by
  have q' := q
  unfold gkOk at q
  rw [Bool.and_eq_true, Bool.and_eq_true] at q
  obtain ⟨g, i1, i2⟩ := q
  have q2 : gkOk W D ks d c = true := by
    unfold gkOk
    rw [Bool.and_eq_true, Bool.and_eq_true]
    exact ⟨g, i2, i1⟩
  have h := (gear_rk g).1.1
  have sy := tbK_symm (gear_w g) (no_lt h i1) (no_lt h i2)
  unfold fewK gkR
  rw [if_pos q2, if_pos q', sy]
  by_cases y : dt (tbK W D ks (no D d)) (no D c) < 0
  · simp only [if_pos y]
  · simp only [if_neg y, List.length_map, gwy_len]
def inT (x : Int) : Bool := decide (-1000 ≤ x ∧ x ≤ 1000)
theorem isTimes_eq (n : Int) : impl_isTimes.f n = some (inT n) := by
  unfold impl_isTimes.f
  rw [within_eq]; rfl
def okOne (W D : Int) (ks : List (List Int)) (c : ByteArray) : Bool := gearB W D ks && isC W D c
theorem joCode_ev (W D : Int) (ks : List (List Int)) (c : ByteArray) (hk : ks.length ≤ 9223372036854775807) (hc : c.size ≤ 140737488351232) : Ev (fun k => spec_joCode.f k W D ks c) (okOne W D ks c) := by
  unfold spec_joCode.f okOne
  by_cases h : gearB W D ks = true
  · have dd := LK.d (gear_rk h).1.1
    have g := joGood_ev W D ks hk
    rw [h] at g ⊢
    refine Ev.bind g ?_
    simp only [if_true, Bool.true_and]
    exact Ev.bind (whCode_ev dd c hc) (Ev.now _)
  · have g := joGood_ev W D ks hk
    rw [Bool.eq_false_iff.mpr h] at g ⊢
    refine Ev.bind g ?_
    simp only [Bool.false_eq_true, if_false, Bool.false_and]
    exact Ev.now _
theorem geared1_ev (W D : Int) (ks : List (List Int)) (c : ByteArray) (hk : ks.length ≤ 9223372036854775807) (hc : c.size ≤ 140737488351232) : Ev (fun k => impl_geared.f k W D ks [c]) (okOne W D ks c) := by
  unfold impl_geared.f okOne
  refine Ev.bind (areGears_ev W D ks hk) ?_
  by_cases h : gearB W D ks = true
  · have hh := has_ev W D [c] (by simp) (fun s hs' => by
      simp only [List.mem_cons, List.not_mem_nil, or_false] at hs'
      rcases hs' with rfl
      exact hc)
    have e : (decide (LK W D) && [c].all (isC W D)) = isC W D c := by rw [decide_eq_true (gear_rk h).1.1]; simp
    rw [e] at hh
    simp only [h, if_true, Bool.true_and]
    exact Ev.bind hh (Ev.now _)
  · simp only [Bool.eq_false_iff.mpr h, Bool.false_eq_true, if_false, Bool.false_and]; exact Ev.now _
theorem hasKnob_ev (W D : Int) (ks : List (List Int)) (i : Int) (hk : ks.length ≤ 9223372036854775807) : Ev (fun k => impl_hasKnob.f k W D ks i) (gearB W D ks && decide (0 ≤ i ∧ i < (ks.length : Int))) := by
  unfold impl_hasKnob.f
  refine Ev.bind (areGears_ev W D ks hk) ?_
  by_cases h : gearB W D ks = true
  · have := (gear_rk h).2.1
    simp only [h, if_true, Bool.true_and, within_eq, Option.bind_some, w64 (x := (ks.length : Int) - 1) (by omega) (by omega)]
    rw [show decide (0 ≤ i ∧ i ≤ (ks.length : Int) - 1) = decide (0 ≤ i ∧ i < (ks.length : Int)) by rw [decide_eq_decide]; omega]
    exact Ev.now _
  · simp only [Bool.eq_false_iff.mpr h, Bool.false_eq_true, if_false, Bool.false_and]; exact Ev.now _
def tkOk (W D : Int) (ks : List (List Int)) (c : ByteArray) (i t : Int) : Bool := okOne W D ks c && (decide (0 ≤ i ∧ i < (ks.length : Int)) && inT t)
def tkR (W D : Int) (ks : List (List Int)) (c : ByteArray) (i t : Int) : ByteArray × Bool := if tkOk W D ks c i t = true then (txt (kt D (kn ks i.toNat) t (digs c)), true) else (⟨#[]⟩, false)
theorem one_parts {W D : Int} {ks : List (List Int)} {c : ByteArray} (q : okOne W D ks c = true) : gearB W D ks = true ∧ isC W D c = true ∧ (digs c).length = W.toNat ∧ IsD D (digs c) ∧ txt (digs c) = c := by
  unfold okOne at q
  rw [Bool.and_eq_true] at q
  exact ⟨q.1, q.2, codeOf (gear_rk q.1).1.1 q.2⟩
theorem turn_both (W D : Int) (ks : List (List Int)) (c : ByteArray) (i t : Int) (hk : ks.length ≤ 9223372036854775807) (hc : c.size ≤ 140737488351232) :
    Ev (fun k => spec_TurnKnob.f k W D ks c i t) (tkR W D ks c i t) ∧ Ev (fun k => impl_TurnKnob.f k W D ks c i t) (tkR W D ks c i t) := by
  have a1 := joCode_ev W D ks c hk hc
  have a2 := geared1_ev W D ks c hk hc
  unfold spec_TurnKnob.f impl_TurnKnob.f tkR tkOk
  by_cases q : okOne W D ks c = true
  · rw [q] at a1 a2
    obtain ⟨g, ic, l1, d1, e1⟩ := one_parts q
    have hw := gear_w g
    have hn := (gear_rk g).2.1
    have hkn := hasKnob_ev W D ks i hk
    have wW := LK.w (gear_rk g).1.1
    rw [g, Bool.true_and] at hkn
    simp only [q, Bool.true_and, l1In_eq, isTimes_eq, Option.bind_some]
    have ed : decide (0 ≤ i ∧ i ≤ wrap64 ((ks.length : Int) - 1)) = decide (0 ≤ i ∧ i < (ks.length : Int)) := by
      rw [w64 (x := (ks.length : Int) - 1) (by omega) (by omega), decide_eq_decide]; omega
    rw [ed]
    by_cases ci : 0 ≤ i ∧ i < (ks.length : Int)
    · rw [decide_eq_true ci] at hkn ⊢
      simp only [Bool.true_and, if_true]
      by_cases ct : inT t = true
      · have ht : -1000 ≤ t ∧ t ≤ 1000 := by unfold inT at ct; exact of_decide_eq_true ct
        have x1 := joTurn_ev hw d1 (by omega) (i := i.toNat) (by omega) ht
        have x2 := knobTurned_ev hw d1 (by omega) (i := i.toNat) (by omega) ht
        rw [e1, Int.toNat_of_nonneg ci.1] at x1 x2
        have ct' : decide (-1000 ≤ t ∧ t ≤ 1000) = true := ct
        simp only [ct, ct', if_true]
        refine ⟨Ev.bind a1 ?_, Ev.bind a2 ?_⟩
        · simp only [if_true]; exact Ev.bind x1 (Ev.now _)
        · simp only [if_true]
          refine Ev.bind hkn ?_
          simp only [if_true]
          exact Ev.bind x2 (Ev.now _)
      · have ct' : decide (-1000 ≤ t ∧ t ≤ 1000) = false := Bool.eq_false_iff.mpr ct
        simp only [Bool.eq_false_iff.mpr ct, ct', Bool.false_eq_true, if_false]
        refine ⟨Ev.bind a1 ?_, Ev.bind a2 ?_⟩
        · simp only [if_true]; exact Ev.now _
        · simp only [if_true]
          refine Ev.bind hkn ?_
          simp only [if_true]
          exact Ev.now _
    · rw [decide_eq_false ci] at hkn ⊢
      simp only [Bool.false_and, Bool.false_eq_true, if_false]
      refine ⟨Ev.bind a1 ?_, Ev.bind a2 ?_⟩
      · simp only [if_true]; exact Ev.now _
      · simp only [if_true]
        refine Ev.bind hkn ?_
        simp only [Bool.false_eq_true, if_false]
        exact Ev.now _
  · rw [Bool.eq_false_iff.mpr q] at a1 a2
    simp only [Bool.eq_false_iff.mpr q, Bool.false_and, Bool.false_eq_true, if_false]
    refine ⟨Ev.bind a1 ?_, Ev.bind a2 ?_⟩
    · simp only [Bool.false_eq_true, if_false]; exact Ev.now _
    · simp only [Bool.false_eq_true, if_false]; exact Ev.now _
theorem tk_parts {W D : Int} {ks : List (List Int)} {c : ByteArray} {i t : Int} (q : tkOk W D ks c i t = true) : okOne W D ks c = true ∧ (0 ≤ i ∧ i < (ks.length : Int)) ∧ (-1000 ≤ t ∧ t ≤ 1000) := by
  unfold tkOk at q
  rw [Bool.and_eq_true, Bool.and_eq_true] at q
  refine ⟨q.1, of_decide_eq_true q.2.1, ?_⟩
  have := q.2.2
  unfold inT at this
  exact of_decide_eq_true this
/-- A code behind a turn is a code. -/
theorem tk_isC {W D : Int} {ks : List (List Int)} {a : List Int} (g : gearB W D ks = true) {i : Nat} (hi : i < ks.length) (ha : a.length = W.toNat) (t : Int) : okOne W D ks (txt (kt D (kn ks i) t a)) = true ∧ digs (txt (kt D (kn ks i) t a)) = kt D (kn ks i) t a := by
  have h := (gear_rk g).1.1
  have dd := LK.d h
  have hww := LK.w h
  have kl := klen (gear_w g) (kn ks i) (by rw [kn_get ks hi]; exact List.getElem_mem hi)
  have i1 := kt_isD (D := D) (by omega) (kn ks i) t a
  have l1 : (kt D (kn ks i) t a).length = W.toNat := by rw [kt_len (by omega)]; exact ha
  refine ⟨?_, digs_txt (IsD.mono i1 dd.2)⟩
  unfold okOne isC
  rw [Bool.and_eq_true, Bool.and_eq_true, txt_size, decide_eq_true_eq]
  exact ⟨g, by omega, txt_isT dd i1⟩
/-- .. and turned back it is the one from before. -/
theorem tk_back {W D : Int} {ks : List (List Int)} {c : ByteArray} {i t : Int} (q : tkOk W D ks c i t = true) : tkR W D ks (tkR W D ks c i t).1 i (-t) = (c, true) := by
  obtain ⟨o, ci, ct⟩ := tk_parts q
  obtain ⟨g, ic, l1, d1, e1⟩ := one_parts o
  have kl := klen (gear_w g) (kn ks i.toNat) (by rw [kn_get ks (show i.toNat < ks.length by omega)]; exact List.getElem_mem _)
  obtain ⟨o2, dg2⟩ := tk_isC g (i := i.toNat) (by omega) l1 t
  have e : (tkR W D ks c i t).1 = txt (kt D (kn ks i.toNat) t (digs c)) := by unfold tkR; rw [if_pos q]
  rw [e]
  unfold tkR
  have q2 : tkOk W D ks (txt (kt D (kn ks i.toNat) t (digs c))) i (-t) = true := by
    unfold tkOk inT
    rw [Bool.and_eq_true, Bool.and_eq_true, decide_eq_true_eq, decide_eq_true_eq]
    exact ⟨o2, ci, by omega⟩
  rw [if_pos q2, dg2, kt_back d1 (by omega), e1]
def kaOk (W D : Int) (ks : List (List Int)) (c : ByteArray) (l : List Int) : Bool := okOne W D ks c && (decide (l.length = ks.length) && l.all inT)
def kaR (W D : Int) (ks : List (List Int)) (c : ByteArray) (l : List Int) : ByteArray × Bool := if kaOk W D ks c l = true then (txt (aft D ks l (digs c)), true) else (⟨#[]⟩, false)
theorem all_drop {α : Type} (p : α → Bool) (l : List α) {j : Nat} (h : j < l.length) : (l.drop j).all p = (p l[j] && (l.drop (j + 1)).all p) := by
  rw [List.drop_eq_getElem_cons h, List.all_cons]
theorem l1AllT_ev (l : List Int) (hl : l.length ≤ 1000000000000) : Ev (fun k => spec_l1All.f k l (-1000) 1000) (l.all inT) := by
  unfold spec_l1All.f
  have key := ev_down (g := fun j k => spec_l1All.l0 k (-1000) 1000 l (l.length : Int) (j : Int)) (R := fun j => (l.drop j).all inT) l.length ?_ ?_
  · simpa using key
  · intro j hj ih
    refine Ev.succ ?_
    simp only [spec_l1All.l0, if_pos (show (j : Int) < (l.length : Int) by omega), if_pos (show (0 : Int) ≤ (j : Int) by omega), rd_get l j hj, l1In_eq, Option.bind_some, w64 (x := (j : Int) + 1) (by omega) (by omega)]
    rw [all_drop _ _ hj]
    by_cases q : inT l[j] = true
    · have q' : decide (-1000 ≤ l[j] ∧ l[j] ≤ 1000) = true := q
      simp only [q', if_true, q, Bool.true_and]; exact ih
    · have q' : decide (-1000 ≤ l[j] ∧ l[j] ≤ 1000) = false := Bool.eq_false_iff.mpr q
      simp only [q', Bool.false_eq_true, if_false, Bool.eq_false_iff.mpr q, Bool.false_and]; exact Ev.now _
  · refine Ev.succ ?_
    simp only [spec_l1All.l0, if_neg (show ¬ ((l.length : Nat) : Int) < (l.length : Int) by omega)]
    rw [List.drop_length]; exact Ev.now _
theorem aft_cons (D : Int) {ks : List (List Int)} {l : List Int} {j : Nat} (hj : j < ks.length) (hl : j < l.length) (a : List Int) : aft D (ks.drop j) (l.drop j) a = aft D (ks.drop (j + 1)) (l.drop (j + 1)) (kt D (kn ks j) l[j] a) := by
  rw [List.drop_eq_getElem_cons hj, List.drop_eq_getElem_cons hl, ← kn_get ks hj]; rfl
theorem after_impl {W D : Int} {ks : List (List Int)} (h : gearW W D ks) {l : List Int} (hl : l.length = ks.length) : ∀ (m j : Nat) (a : List Int), j + m = l.length → IsD D a → a.length = W.toNat →
    Ev (fun k => impl_KnobsAfter.l0 k (txt a) l (l.length : Int) (j : Int) W D ks) (if (l.drop j).all inT = true then (txt (aft D (ks.drop j) (l.drop j) a), true) else (⟨#[]⟩, false))
  | 0, j, a, hj, ha, la => by
    refine Ev.succ ?_
    simp only [impl_KnobsAfter.l0, if_neg (show ¬ (j : Int) < (l.length : Int) by omega)]
    rw [List.drop_of_length_le (by omega), List.drop_of_length_le (by omega)]
    simp only [List.all_nil, if_true, aft]
    exact Ev.now _
  | m + 1, j, a, hj, ha, la => by
    have hn := (gear_wk h).2.1
    have dd := LK.d (gear_wk h).1.1
    have hww := LK.w (gear_wk h).1.1
    have hjl : j < l.length := by omega
    have hjk : j < ks.length := by omega
    have kl := klen h (kn ks j) (by rw [kn_get ks hjk]; exact List.getElem_mem hjk)
    refine Ev.succ ?_
    simp only [impl_KnobsAfter.l0, if_pos (show (j : Int) < (l.length : Int) by omega), if_pos (show (0 : Int) ≤ (j : Int) by omega), rd_get l j hjl, isTimes_eq, Option.bind_some]
    rw [all_drop _ _ hjl, aft_cons D hjk hjl]
    by_cases q : inT l[j] = true
    · have ht : -1000 ≤ l[j] ∧ l[j] ≤ 1000 := by unfold inT at q; exact of_decide_eq_true q
      simp only [q, if_true, Bool.true_and]
      refine Ev.bind (knobTurned_ev h ha (by omega) hjk ht) ?_
      simp only [w64 (x := (j : Int) + 1) (by omega) (by omega)]
      exact after_impl h hl m (j + 1) (kt D (kn ks j) l[j] a) (by omega) (kt_isD (by omega) _ _ _) (by rw [kt_len (by omega)]; exact la)
    · simp only [Bool.eq_false_iff.mpr q, Bool.false_eq_true, if_false, Bool.false_and]
      exact Ev.now _
theorem after_spec {W D : Int} {ks : List (List Int)} (h : gearW W D ks) {l : List Int} (hl : l.length = ks.length) (hq : l.all inT = true) : ∀ (m j : Nat) (a : List Int), j + m = l.length → IsD D a → a.length = W.toNat →
    Ev (fun k => spec_joAfter.l0 k (txt a) l (l.length : Int) (j : Int) W D ks) (txt (aft D (ks.drop j) (l.drop j) a))
  | 0, j, a, hj, ha, la => by
    refine Ev.succ ?_
    simp only [spec_joAfter.l0, if_neg (show ¬ (j : Int) < (l.length : Int) by omega)]
    rw [List.drop_of_length_le (by omega), List.drop_of_length_le (by omega)]
    simp only [aft]
    exact Ev.now _
  | m + 1, j, a, hj, ha, la => by
    have hn := (gear_wk h).2.1
    have dd := LK.d (gear_wk h).1.1
    have hww := LK.w (gear_wk h).1.1
    have hjl : j < l.length := by omega
    have hjk : j < ks.length := by omega
    have kl := klen h (kn ks j) (by rw [kn_get ks hjk]; exact List.getElem_mem hjk)
    have q := List.all_eq_true.mp hq _ (List.getElem_mem hjl)
    have ht : -1000 ≤ l[j] ∧ l[j] ≤ 1000 := by unfold inT at q; exact of_decide_eq_true q
    refine Ev.succ ?_
    simp only [spec_joAfter.l0, if_pos (show (j : Int) < (l.length : Int) by omega), if_pos (show (0 : Int) ≤ (j : Int) by omega), rd_get l j hjl]
    rw [aft_cons D hjk hjl]
    refine Ev.bind (joTurn_ev h ha (by omega) hjk ht) ?_
    simp only [w64 (x := (j : Int) + 1) (by omega) (by omega)]
    exact after_spec h hl hq m (j + 1) (kt D (kn ks j) l[j] a) (by omega) (kt_isD (by omega) _ _ _) (by rw [kt_len (by omega)]; exact la)
theorem after_both (W D : Int) (ks : List (List Int)) (c : ByteArray) (l : List Int) (hk : ks.length ≤ 9223372036854775807) (hl : l.length ≤ 1000000) (hc : c.size ≤ 140737488351232) :
    Ev (fun k => spec_KnobsAfter.f k W D ks c l) (kaR W D ks c l) ∧ Ev (fun k => impl_KnobsAfter.f k W D ks c l) (kaR W D ks c l) := by
  have a1 := joCode_ev W D ks c hk hc
  have a2 := geared1_ev W D ks c hk hc
  unfold spec_KnobsAfter.f impl_KnobsAfter.f kaR kaOk
  by_cases q : okOne W D ks c = true
  · rw [q] at a1 a2
    obtain ⟨g, ic, l1, d1, e1⟩ := one_parts q
    have hw := gear_w g
    simp only [q, Bool.true_and]
    by_cases cl : l.length = ks.length
    · rw [decide_eq_true cl, Bool.true_and]
      have x1 := after_impl hw cl l.length 0 (digs c) (by omega) d1 l1
      rw [e1, List.drop_zero, List.drop_zero] at x1
      refine ⟨Ev.bind a1 ?_, Ev.bind a2 ?_⟩
      · simp only [if_true, if_pos (show (l.length : Int) = (ks.length : Int) by omega)]
        refine Ev.bind (l1AllT_ev l (by omega)) ?_
        by_cases ca : l.all inT = true
        · have x2 := after_spec hw cl ca l.length 0 (digs c) (by omega) d1 l1
          rw [e1, List.drop_zero, List.drop_zero] at x2
          simp only [ca, if_true]
          exact Ev.bind x2 (Ev.now _)
        · simp only [Bool.eq_false_iff.mpr ca, Bool.false_eq_true, if_false]
          exact Ev.now _
      · simp only [if_true]
        refine Ev.succ ?_
        simp only [impl_KnobsAfter.j0, show ((l.length : Int) != (ks.length : Int)) = false from bne_eq_false_iff_eq.mpr (by omega), Bool.false_eq_true, if_false]
        exact x1
    · rw [decide_eq_false cl, Bool.false_and]
      simp only [Bool.false_eq_true, if_false]
      refine ⟨Ev.bind a1 ?_, Ev.bind a2 ?_⟩
      · simp only [if_true, if_neg (show ¬ (l.length : Int) = (ks.length : Int) by omega)]
        exact Ev.now _
      · simp only [if_true]
        refine Ev.succ ?_
        simp only [impl_KnobsAfter.j0, show ((l.length : Int) != (ks.length : Int)) = true from bne_iff_ne.mpr (by omega), if_true]
        exact Ev.now _
  · rw [Bool.eq_false_iff.mpr q] at a1 a2
    simp only [Bool.eq_false_iff.mpr q, Bool.false_and, Bool.false_eq_true, if_false]
    refine ⟨Ev.bind a1 ?_, Ev.bind a2 ?_⟩
    · simp only [Bool.false_eq_true, if_false]; exact Ev.now _
    · simp only [Bool.false_eq_true, if_false]
      refine Ev.succ ?_
      simp only [impl_KnobsAfter.j0, if_true]
      exact Ev.now _
theorem gcd_ev : ∀ (n : Nat) (a b : Int), 0 ≤ a → 0 ≤ b → b ≤ (n : Int) → ∃ g : Int, Ev (fun k => impl_gcd.l0 k a b) g ∧ 0 ≤ g ∧ g ∣ a ∧ g ∣ b ∧ (0 < a → 0 < g)
  | 0, a, b, ha, hb, hn => by
    have e : b = 0 := by omega
    subst e
    refine ⟨a, Ev.succ ?_, ha, Int.dvd_refl a, Int.dvd_zero a, fun h => h⟩
    simp only [impl_gcd.l0, if_true]
    exact Ev.now _
  | n + 1, a, b, ha, hb, hn => by
    by_cases e : b = 0
    · subst e
      refine ⟨a, Ev.succ ?_, ha, Int.dvd_refl a, Int.dvd_zero a, fun h => h⟩
      simp only [impl_gcd.l0, if_true]
      exact Ev.now _
    · have m0 := Int.emod_nonneg a e
      have m1 := Int.emod_lt_of_pos a (show 0 < b by omega)
      obtain ⟨g, h1, h2, h3, h4, h5⟩ := gcd_ev n b (a % b) hb m0 (by omega)
      refine ⟨g, Ev.succ ?_, h2, ?_, h3, fun _ => h5 (by omega)⟩
      · simp only [impl_gcd.l0, if_neg e]
        rw [Int.tmod_eq_emod_of_nonneg ha]
        exact h1
      · have := Int.mul_ediv_add_emod a b
        rw [← this]
        exact Int.dvd_add (Int.dvd_trans h3 (Int.dvd_mul_right _ _)) h4
theorem period_ev {W D : Int} {ks : List (List Int)} (g : gearB W D ks = true) {i : Int} (hi : 0 ≤ i ∧ i < (ks.length : Int)) (hk : ks.length ≤ 9223372036854775807) :
    ∃ p : Int, Ev (fun k => impl_PeriodOfKnob.f k W D ks i) (p, true) ∧ 1 ≤ p ∧ p ≤ D ∧ ∀ a : List Int, IsD D a → a.length = W.toNat → kt D (kn ks i.toNat) p a = a := by
  have hw := gear_w g
  have dd := LK.d (gear_rk g).1.1
  have hww := LK.w (gear_rk g).1.1
  have hin : i.toNat < ks.length := by omega
  obtain ⟨kl, kd⟩ := kn_at hw hin
  have hkn := hasKnob_ev W D ks i hk
  rw [g, decide_eq_true hi, Bool.true_and] at hkn
  obtain ⟨K, eK⟩ : ∃ K, kn ks i.toNat = K := ⟨_, rfl⟩
  rw [eK] at kl kd ⊢
  have loop : ∀ (m j : Nat) (x : Int), j + m = K.length → 0 < x → x ∣ D → (∀ y ∈ K.take j, x ∣ y) → ∃ z : Int, Ev (fun k => impl_PeriodOfKnob.l0 k x K (K.length : Int) (j : Int) W D ks) (wrap64 (Int.tdiv D z), true) ∧ 0 < z ∧ z ∣ D ∧ ∀ y ∈ K, z ∣ y := by
    intro m
    induction m with
    | zero =>
      intro j x hj hx hd hy
      refine ⟨x, Ev.succ ?_, hx, hd, fun y hm => hy y (by rw [List.take_of_length_le (by omega)]; exact hm)⟩
      simp only [impl_PeriodOfKnob.l0, if_neg (show ¬ (j : Int) < (K.length : Int) by omega), if_neg (show ¬ x = 0 by omega)]
      exact Ev.now _
    | succ m ih =>
      intro j x hj hx hd hy
      have hjl : j < K.length := by omega
      have b := IsD.get kd hjl
      obtain ⟨z, z1, z2, z3, z4, z5⟩ := gcd_ev 10 x K[j] (by omega) b.1 (by omega)
      have zp := z5 hx
      obtain ⟨y, y1, y2, y3, y4⟩ := ih (j + 1) z (by omega) zp (Int.dvd_trans z3 hd) (fun v hv => by
        rw [List.take_succ_eq_append_getElem hjl] at hv
        rcases List.mem_append.mp hv with q | q
        · exact Int.dvd_trans z3 (hy v q)
        · rw [List.mem_singleton.mp q]; exact z4)
      refine ⟨y, Ev.succ ?_, y2, y3, y4⟩
      simp only [impl_PeriodOfKnob.l0, if_pos (show (j : Int) < (K.length : Int) by omega), if_pos (show (0 : Int) ≤ (j : Int) by omega), rd_get K j hjl, impl_gcd.f]
      refine Ev.bind z1 ?_
      simp only [w64 (x := (j : Int) + 1) (by omega) (by omega)]
      exact y1
  obtain ⟨z, z1, z2, z3, z4⟩ := loop K.length 0 D (by omega) (by omega) (Int.dvd_refl D) (by simp)
  have zl : z ≤ D := Int.le_of_dvd (by omega) z3
  have et : Int.tdiv D z = D / z := Int.tdiv_eq_ediv_of_nonneg (by omega)
  have q1 : D / z * z = D := Int.ediv_mul_cancel z3
  have p1 : 1 ≤ D / z := by
    rcases Int.lt_or_le (D / z) 1 with c | c
    · have : D / z * z ≤ 0 * z := Int.mul_le_mul_of_nonneg_right (show D / z ≤ 0 by omega) (show 0 ≤ z by omega)
      omega
    · exact c
  have p2 : D / z ≤ D := Int.ediv_le_self z (by omega)
  refine ⟨D / z, ?_, p1, p2, fun a ha la => ?_⟩
  · unfold impl_PeriodOfKnob.f
    refine Ev.bind hkn ?_
    rw [et, w64 (x := D / z) (by omega) (by omega)] at z1
    have er : rd_L1 ks i = K := by rw [← eK, ← rd_kn, Int.toNat_of_nonneg hi.1]
    simp only [if_true, if_pos hi.1, if_pos hi.2, er]
    exact z1
  · refine List.ext_getElem (by rw [kt_lens]; omega) fun j h1 h2 => ?_
    rw [kt_get]
    have hjK : j < K.length := by omega
    obtain ⟨m, hm⟩ := z4 _ (List.getElem_mem hjK)
    have e : D / z * K[j] = D * m := by rw [hm, ← Int.mul_assoc, q1]
    rw [e, Int.add_mul_emod_self_left]
    have := IsD.get ha h2
    exact Int.emod_eq_of_lt this.1 this.2
def fcl (far : List Int) : List Nat := (List.range far.length).filter fun v => decide (0 ≤ dt far v)
theorem class_loop (far : List Int) (hf : far.length ≤ 1000000) : ∀ (m j : Nat) (out : List Int), j + m = far.length → out.length ≤ j → Ev (fun k => impl_Gears_class.l0 k out far (far.length : Int) (j : Int)) (out ++ ((((List.range far.length).drop j).filter fun v => decide (0 ≤ dt far v)).map fun v : Nat => (v : Int)))
  | 0, j, out, hj, ho => by
    refine Ev.succ ?_
    simp only [impl_Gears_class.l0, if_neg (show ¬ (j : Int) < (far.length : Int) by omega)]
    rw [List.drop_of_length_le (by rw [List.length_range]; omega)]
    simp only [List.filter_nil, List.map_nil, List.append_nil]
    exact Ev.now _
  | m + 1, j, out, hj, ho => by
    have hd1 : j < (List.range far.length).length := by rw [List.length_range]; omega
    rw [List.drop_eq_getElem_cons hd1, List.getElem_range, List.filter_cons]
    refine Ev.succ ?_
    simp only [impl_Gears_class.l0, if_pos (show (j : Int) < (far.length : Int) by omega), if_pos (show (0 : Int) ≤ (j : Int) by omega), rd_dt (show j < far.length by omega), if_pos (show out.length < 17592186044416 by omega), w64 (x := (j : Int) + 1) (by omega) (by omega)]
    by_cases q : 0 ≤ dt far j
    · have ih := class_loop far hf m (j + 1) (out ++ [(j : Int)]) (by omega) (by rw [List.length_append]; simp only [List.length_cons, List.length_nil]; omega)
      simp only [if_pos (show dt far j ≥ 0 from q), decide_eq_true q, if_true, List.map_cons]
      rw [List.append_assoc] at ih
      exact ih
    · simp only [if_neg (show ¬ dt far j ≥ 0 from q), decide_eq_false q, Bool.false_eq_true, if_false]
      exact class_loop far hf m (j + 1) out (by omega) (by omega)
theorem first_ev {W D : Int} {ks : List (List Int)} {c : ByteArray} (q : okOne W D ks c = true) (hk : ks.length ≤ 9223372036854775807) (hc : c.size ≤ 140737488351232) : Ev (fun k => impl_FirstOfClass.f k W D ks c) (co W D ((fcl (tbK W D ks (no D c))).headD 0), true) := by
  have a2 := geared1_ev W D ks c hk hc
  rw [q] at a2
  obtain ⟨g, ic, l1, d1, e1⟩ := one_parts q
  have hw := gear_w g
  have h := (gear_rk g).1.1
  have hs := no_lt h ic
  have T := tbK_tab hw hs
  have len := T.len
  have cb := cnt_bd h
  have hN := NN_cnt h
  have ec := co_no h ic
  have gf := gfar_ev hw hs
  rw [ec] at gf
  have cl := class_loop (tbK W D ks (no D c)) (by omega) (tbK W D ks (no D c)).length 0 [] (by omega) (by simp)
  rw [List.nil_append, List.drop_zero] at cl
  have mem : no D c ∈ fcl (tbK W D ks (no D c)) := by
    unfold fcl
    rw [List.mem_filter, List.mem_range]
    exact ⟨by omega, decide_eq_true (by rw [T.start]; omega)⟩
  unfold impl_FirstOfClass.f impl_Gears_class.f
  refine Ev.bind a2 ?_
  simp only [if_true]
  refine Ev.bind (Ev.bind gf cl) ?_
  obtain ⟨x, xs, ex⟩ : ∃ x xs, fcl (tbK W D ks (no D c)) = x :: xs := by
    cases e : fcl (tbK W D ks (no D c)) with
    | nil => rw [e] at mem; cases mem
    | cons x xs => exact ⟨x, xs, rfl⟩
  have xm : x ∈ fcl (tbK W D ks (no D c)) := by rw [ex]; exact List.mem_cons_self ..
  have xN : x < NN W D := by
    unfold fcl at xm
    rw [List.mem_filter, List.mem_range] at xm
    omega
  have ex2 := ex
  unfold fcl at ex2
  rw [ex2, ex]
  simp only [List.map_cons, List.length_cons, if_pos (show (0 : Int) < (((xs.map fun v : Nat => (v : Int)).length + 1 : Nat) : Int) by omega), show rd ((x : Int) :: xs.map fun v : Nat => (v : Int)) 0 = (x : Int) from rfl, List.headD_cons]
  exact Ev.bind (code_ev h (by omega) (by omega)) (Ev.now _)
theorem first_same {W D : Int} {ks : List (List Int)} (h : gearW W D ks) {s t : Nat} (hs : s < NN W D) (ht : t < NN W D) (hd : 0 ≤ dt (tbK W D ks s) t) : fcl (tbK W D ks s) = fcl (tbK W D ks t) := by
  unfold fcl
  rw [(tbK_tab h hs).len, (tbK_tab h ht).len]
  refine List.filter_congr fun v _ => ?_
  rw [decide_eq_decide]
  exact tbK_class h hs ht hd v
theorem eTurns_ev (l : List S48) (hl : l.length ≤ 100000000000) : Ev (fun k => laws_eTurns.f k l l) true := by
  unfold laws_eTurns.f
  simp only [if_true]
  refine ev_loop (g := fun j k => laws_eTurns.l0 k l l (l.length : Int) (j : Int)) l.length ?_ ?_
  · intro j hj ih
    refine Ev.succ ?_
    simp only [laws_eTurns.l0, if_pos (show (j : Int) < (l.length : Int) by omega), if_pos (show (0 : Int) ≤ (j : Int) by omega), beq_self_eq_true, Bool.not_true, Bool.or_self, Bool.false_eq_true, if_false, w64 (x := (j : Int) + 1) (by omega) (by omega)]
    exact ih
  · refine Ev.succ ?_
    simp only [laws_eTurns.l0, if_neg (show ¬ ((l.length : Nat) : Int) < (l.length : Int) by omega)]
    exact Ev.now _
theorem eSame_ev (l : List Int) (hl : l.length ≤ 100000000000) : Ev (fun k => laws_eSame.f k l l) true := by
  unfold laws_eSame.f
  simp only [if_true]
  refine ev_loop (g := fun j k => laws_eSame.l0 k l l (l.length : Int) (j : Int)) l.length ?_ ?_
  · intro j hj ih
    refine Ev.succ ?_
    simp only [laws_eSame.l0, if_pos (show (j : Int) < (l.length : Int) by omega), if_pos (show (0 : Int) ≤ (j : Int) by omega), if_true, w64 (x := (j : Int) + 1) (by omega) (by omega)]
    exact ih
  · refine Ev.succ ?_
    simp only [laws_eSame.l0, if_neg (show ¬ ((l.length : Nat) : Int) < (l.length : Int) by omega)]
    exact Ev.now _
end Go.Proofs.Ytiacdekbleebjaa.KT
namespace Go.Proofs.Ytiacdekbleebjaa.KU
open Go.RowKit Go.Proofs.Ytiacdekbleebjaa.P Go.Proofs.Ytiacdekbleebjaa.B Go.Proofs.Ytiacdekbleebjaa.C Go.Proofs.Ytiacdekbleebjaa.L Go.Proofs.Ytiacdekbleebjaa.A Go.Proofs.Ytiacdekbleebjaa.O Go.Proofs.Ytiacdekbleebjaa.O2 Go.Proofs.Ytiacdekbleebjaa.R Go.Proofs.Ytiacdekbleebjaa.RS Go.Proofs.Ytiacdekbleebjaa.D2 Go.Proofs.Ytiacdekbleebjaa.NX Go.Proofs.Ytiacdekbleebjaa.DE Go.Proofs.Ytiacdekbleebjaa.GE Go.Proofs.Ytiacdekbleebjaa.Q Go.Proofs.Ytiacdekbleebjaa.FF Go.Proofs.Ytiacdekbleebjaa.FS Go.Proofs.Ytiacdekbleebjaa.GF Go.Proofs.Ytiacdekbleebjaa.GS Go.Proofs.Ytiacdekbleebjaa.ND Go.Proofs.Ytiacdekbleebjaa.GK Go.Proofs.Ytiacdekbleebjaa.GB Go.Proofs.Ytiacdekbleebjaa.TF Go.Proofs.Ytiacdekbleebjaa.KT Go.Proofs.YtiacdekbleebjaaW.PrintWords Go.Proofs.YtiacdekbleebjaaW.PrintLast Go.Proofs.YtiacdekbleebjaaW.PrintMore
set_option linter.unusedVariables false
set_option linter.unusedSimpArgs false
theorem ka_parts {W D : Int} {ks : List (List Int)} {c : ByteArray} {l : List Int} (q : kaOk W D ks c l = true) : okOne W D ks c = true ∧ l.length = ks.length ∧ l.all inT = true := by
  unfold kaOk at q
  rw [Bool.and_eq_true, Bool.and_eq_true] at q
  exact ⟨q.1, of_decide_eq_true q.2.1, q.2.2⟩
/-- One turn more of those of all knobs. -/
theorem after_step {W D : Int} {ks : List (List Int)} (h : gearB W D ks = true) {l : List Int} (hl : l.length = ks.length) (hq : l.all inT = true) {j : Nat} (hj : j < l.length) {a : List Int} (ha : IsD D a) (la : a.length = W.toNat) :
    tkR W D ks (txt a) (j : Int) l[j] = (txt (kt D (kn ks j) l[j] a), true) ∧ IsD D (kt D (kn ks j) l[j] a) ∧ (kt D (kn ks j) l[j] a).length = W.toNat := by
  have hk := (gear_rk h).1.1
  have dd := LK.d hk
  have hww := LK.w hk
  have hjk : j < ks.length := by omega
  have kl := klen (gear_w h) (kn ks j) (by rw [kn_get ks hjk]; exact List.getElem_mem hjk)
  have q := List.all_eq_true.mp hq _ (List.getElem_mem hj)
  have dg := digs_txt (IsD.mono ha dd.2)
  have o : okOne W D ks (txt a) = true := by
    unfold okOne isC
    rw [Bool.and_eq_true, Bool.and_eq_true, txt_size, decide_eq_true_eq]
    exact ⟨h, by omega, txt_isT dd ha⟩
  have ok : tkOk W D ks (txt a) (j : Int) l[j] = true := by
    unfold tkOk
    rw [Bool.and_eq_true, Bool.and_eq_true, decide_eq_true_eq]
    exact ⟨o, by omega, q⟩
  refine ⟨?_, kt_isD (by omega) _ _ _, by rw [kt_len (by omega)]; exact la⟩
  unfold tkR
  rw [if_pos ok, dg, Int.toNat_natCast]
theorem tk_size (W D : Int) (ks : List (List Int)) (c : ByteArray) (i t : Int) (hc : c.size ≤ 140737488351232) : (tkR W D ks c i t).1.size ≤ 140737488351232 := by
  unfold tkR
  by_cases q : tkOk W D ks c i t = true
  · rw [if_pos q]
    obtain ⟨o, _, _⟩ := tk_parts q
    obtain ⟨g, ic, l1, d1, e1⟩ := one_parts o
    have hww := LK.w (gear_rk g).1.1
    show (txt _).size ≤ _
    rw [txt_size, kt_lens]
    omega
  · rw [if_neg q]; exact Nat.zero_le _
theorem co_size (W D : Int) (h : LK W D) (v : Nat) : (co W D v).size ≤ 140737488351232 := by
  have := LK.w h
  unfold co
  rw [txt_size, cod_len]
  omega
/-- One of the first turns. -/
theorem walk_step {W D : Int} {ks : List (List Int)} (g : gearB W D ks = true) (hk : ks.length ≤ 9223372036854775807) {t : Nat} (ht : t < NN W D) {v : Nat} (hv : v < NN W D) {n : Nat} (hd : dt (tbK W D ks t) v = ((n + 1 : Nat) : Int)) {L : List S48} {i : Nat} (hD : L.drop i = (gwy (nbK W D ks) (tbK W D ks t) (n + 1) v).map trn) (hi : i < L.length) :
    tkR W D ks (co W D v) (rd_T48 L (i : Int)).f0 (rd_T48 L (i : Int)).f1 = (co W D (gnx (nbK W D ks) (tbK W D ks t) n v), true) ∧ gnx (nbK W D ks) (tbK W D ks t) n v < NN W D ∧ dt (tbK W D ks t) (gnx (nbK W D ks) (tbK W D ks t) n v) = (n : Int) ∧ L.drop (i + 1) = (gwy (nbK W D ks) (tbK W D ks t) n (gnx (nbK W D ks) (tbK W D ks t) n v)).map trn := by
  have hw := gear_w g
  have h := (gear_rk g).1.1
  have T := tbK_tab hw ht
  obtain ⟨hj, e, d1, m, lt, _⟩ := g_at (sy_nbK hw) T hv hd
  have hj2 : gj (nbK W D ks) (tbK W D ks t) n v < 2 * ks.length := by rw [nbK_len] at hj; exact hj
  have hc : L.drop i = L[i] :: L.drop (i + 1) := List.drop_eq_getElem_cons hi
  rw [hc, show gwy (nbK W D ks) (tbK W D ks t) (n + 1) v = gj (nbK W D ks) (tbK W D ks t) n v :: gwy (nbK W D ks) (tbK W D ks t) n (gnx (nbK W D ks) (tbK W D ks t) n v) from rfl, List.map_cons] at hD
  injection hD with h1 h2
  have r : rd_T48 L (i : Int) = trn (gj (nbK W D ks) (tbK W D ks t) n v) := by
    unfold rd_T48
    rw [Int.toNat_natCast, List.getD_eq_getElem?_getD, List.getElem?_eq_getElem hi]
    exact h1
  refine ⟨?_, lt, d1, h2⟩
  rw [r]
  have f := trn_f (m := gj (nbK W D ks) (tbK W D ks t) n v)
  have ok : tkOk W D ks (co W D v) (trn (gj (nbK W D ks) (tbK W D ks t) n v)).f0 (trn (gj (nbK W D ks) (tbK W D ks t) n v)).f1 = true := by
    unfold tkOk inT okOne
    rw [Bool.and_eq_true, Bool.and_eq_true, Bool.and_eq_true, decide_eq_true_eq, decide_eq_true_eq, f.2.1]
    exact ⟨⟨g, co_isC h v⟩, by omega, by rcases f.2.2 with q | q <;> rw [q] <;> omega⟩
  unfold tkR
  rw [if_pos ok, f.1, co_digs h, ← e, nbK_co hw v hj]
  rfl
theorem gk_true {W D : Int} {ks : List (List Int)} {c d : ByteArray} (y : (gkR W D ks c d).2 = true) : gkOk W D ks c d = true ∧ 0 ≤ dt (tbK W D ks (no D d)) (no D c) := by
  unfold gkR at y
  by_cases q : gkOk W D ks c d = true
  · rw [if_pos q] at y
    refine ⟨q, ?_⟩
    by_cases z : dt (tbK W D ks (no D d)) (no D c) < 0
    · rw [if_pos z] at y; cases y
    · omega
  · rw [if_neg q] at y; cases y
theorem gk_list {W D : Int} {ks : List (List Int)} {c d : ByteArray} (q : gkOk W D ks c d = true) (dp : 0 ≤ dt (tbK W D ks (no D d)) (no D c)) : ∃ n : Nat, dt (tbK W D ks (no D d)) (no D c) = (n : Int) ∧ (gkR W D ks c d).1 = (gwy (nbK W D ks) (tbK W D ks (no D d)) n (no D c)).map trn := by
  refine ⟨(dt (tbK W D ks (no D d)) (no D c)).toNat, by omega, ?_⟩
  unfold gkR
  rw [if_pos q, if_neg (by omega)]
theorem gk_len (W D : Int) (ks : List (List Int)) (c d : ByteArray) : (gkR W D ks c d).1.length ≤ 1000000 := by
  by_cases y : (gkR W D ks c d).2 = true
  · obtain ⟨q, dp⟩ := gk_true y
    obtain ⟨n, en, eL⟩ := gk_list q dp
    unfold gkOk at q
    rw [Bool.and_eq_true, Bool.and_eq_true] at q
    obtain ⟨g, i1, i2⟩ := q
    have h := (gear_rk g).1.1
    have T := tbK_tab (gear_w g) (no_lt h i2)
    have bd := T.bd (no D c)
    have hN := NN_cnt h
    have cb := cnt_bd h
    rw [eL, List.length_map, gwy_len]
    omega
  · unfold gkR at y ⊢
    by_cases q : gkOk W D ks c d = true
    · rw [if_pos q] at y ⊢
      by_cases z : dt (tbK W D ks (no D d)) (no D c) < 0
      · rw [if_pos z]; exact Nat.zero_le _
      · rw [if_neg z] at y; exact absurd rfl y
    · rw [if_neg q]; exact Nat.zero_le _
theorem digs_cod {W D : Int} (h : LK W D) {c : ByteArray} (ic : isC W D c = true) : cod D W.toNat ((no D c : Nat) : Int) = digs c := by
  rw [← co_digs h, co_no h ic]
theorem fnd_ok {W D : Int} {ks : List (List Int)} {c d : ByteArray} (q : gkOk W D ks c d = true) : 0 ≤ dt (tbK W D ks (no D d)) (no D c) ↔ (fnd D (digs d) ks (digs c)).isSome = true := by
  unfold gkOk at q
  rw [Bool.and_eq_true, Bool.and_eq_true] at q
  obtain ⟨g, i1, i2⟩ := q
  have h := (gear_rk g).1.1
  have hw := gear_w g
  have r := reach_iff hw (no_lt h i1) (no_lt h i2)
  rw [digs_cod h i1, digs_cod h i2, tbK_symm hw (no_lt h i1) (no_lt h i2)] at r
  exact r
theorem tm_ok (W D : Int) (ks : List (List Int)) (c d : ByteArray) : (tmR W D ks c d).2 = (gkR W D ks c d).2 := by
  unfold tmR gkR
  by_cases q : gkOk W D ks c d = true
  · rw [if_pos q, if_pos q]
    have r := fnd_ok q
    by_cases z : dt (tbK W D ks (no D d)) (no D c) < 0
    · rw [if_pos z]
      cases e : fnd D (digs d) ks (digs c) with
      | none => rfl
      | some ts => rw [e] at r; exact absurd (r.mpr rfl) (by omega)
    · rw [if_neg z]
      cases e : fnd D (digs d) ks (digs c) with
      | none => rw [e] at r; exact absurd (r.mp (by omega)) (by decide)
      | some ts => rfl
  · rw [if_neg q, if_neg q]
theorem tm_list {W D : Int} {ks : List (List Int)} {c d : ByteArray} (q : gkOk W D ks c d = true) (dp : 0 ≤ dt (tbK W D ks (no D d)) (no D c)) : ∃ ts, tmR W D ks c d = (ts, true) ∧ ts.length = ks.length ∧ IsD D ts ∧ aft D ks ts (digs c) = digs d := by
  have r := (fnd_ok q).mp dp
  obtain ⟨ts, e⟩ := Option.isSome_iff_exists.mp r
  have q' := q
  unfold gkOk at q'
  rw [Bool.and_eq_true] at q'
  have dd := LK.d (gear_rk q'.1).1.1
  refine ⟨ts, ?_, fnd_some (by omega) ks _ ts e⟩
  unfold tmR
  rw [if_pos q, e]
theorem tm_len (W D : Int) (ks : List (List Int)) (c d : ByteArray) : (tmR W D ks c d).1.length ≤ 5 := by
  by_cases y : (gkR W D ks c d).2 = true
  · obtain ⟨q, dp⟩ := gk_true y
    obtain ⟨ts, e, l, _, _⟩ := tm_list q dp
    unfold gkOk at q
    rw [Bool.and_eq_true] at q
    have := (gear_rk q.1).2.1
    rw [e]
    show ts.length ≤ 5
    omega
  · have y2 := y
    rw [← tm_ok] at y2
    unfold tmR at y2 ⊢
    by_cases q : gkOk W D ks c d = true
    · rw [if_pos q] at y2 ⊢
      cases e : fnd D (digs d) ks (digs c) with
      | none => exact Nat.zero_le _
      | some ts => rw [e] at y2; exact absurd rfl y2
    · rw [if_neg q]; exact Nat.zero_le _
theorem tm_facts {W D : Int} {ks : List (List Int)} {c d : ByteArray} (q : gkOk W D ks c d = true) (dp : 0 ≤ dt (tbK W D ks (no D d)) (no D c)) : (tmR W D ks c d).1.length = ks.length ∧ IsD D (tmR W D ks c d).1 ∧ kaR W D ks c (tmR W D ks c d).1 = (d, true) := by
  obtain ⟨ts, e, l, i, a⟩ := tm_list q dp
  unfold gkOk at q
  rw [Bool.and_eq_true, Bool.and_eq_true] at q
  obtain ⟨g, i1, i2⟩ := q
  have dd := LK.d (gear_rk g).1.1
  rw [e]
  refine ⟨l, i, ?_⟩
  have ok : kaOk W D ks c ts = true := by
    unfold kaOk okOne
    rw [Bool.and_eq_true, Bool.and_eq_true, Bool.and_eq_true, decide_eq_true_eq, List.all_eq_true]
    refine ⟨⟨g, i1⟩, l, fun x hx => ?_⟩
    have := i x hx
    unfold inT
    rw [decide_eq_true_eq]
    omega
  unfold kaR
  rw [if_pos ok, a, (codeOf (gear_rk g).1.1 i2).2.2]
theorem few_zero {W D : Int} {ks : List (List Int)} {c d : ByteArray} (q : gkOk W D ks c d = true) (dp : 0 ≤ dt (tbK W D ks (no D d)) (no D c)) : ((fewK W D ks c d).1 == 0) = (c.toList == d.toList) := by
  obtain ⟨n, en, eL⟩ := gk_list q dp
  unfold gkOk at q
  rw [Bool.and_eq_true, Bool.and_eq_true] at q
  obtain ⟨g, i1, i2⟩ := q
  have h := (gear_rk g).1.1
  have T := tbK_tab (gear_w g) (no_lt h i2)
  have e : (fewK W D ks c d).1 = (n : Int) := by
    show (((gkR W D ks c d).1.length : Nat) : Int) = n
    rw [eL, List.length_map, gwy_len]
  rw [e]
  by_cases z : c = d
  · subst z
    have := T.start
    rw [show (n : Int) = 0 by omega, beq_self_eq_true, beq_self_eq_true]
  · have n0 : ¬ (n : Int) = 0 := fun q0 => z (by
      have := T.zero (no D c) (by omega)
      rw [← co_no h i1, ← co_no h i2, this])
    rw [beq_eq_false_iff_ne.mpr n0, beq_eq_false_iff_ne.mpr (fun q0 => z (toList_inj.mp q0))]
end Go.Proofs.Ytiacdekbleebjaa.KU
namespace Go.Proofs.Ytiacdekbleebjaa.Pure
open Go.RowKit Go.Proofs.Ytiacdekbleebjaa.P Go.Proofs.Ytiacdekbleebjaa.B Go.Proofs.Ytiacdekbleebjaa.C Go.Proofs.Ytiacdekbleebjaa.L Go.Proofs.Ytiacdekbleebjaa.A Go.Proofs.Ytiacdekbleebjaa.O Go.Proofs.Ytiacdekbleebjaa.O2 Go.Proofs.Ytiacdekbleebjaa.R Go.Proofs.Ytiacdekbleebjaa.D2 Go.Proofs.Ytiacdekbleebjaa.NX Go.Proofs.Ytiacdekbleebjaa.DE Go.Proofs.Ytiacdekbleebjaa.GE Go.Proofs.Ytiacdekbleebjaa.Q Go.Proofs.Ytiacdekbleebjaa.FF Go.Proofs.Ytiacdekbleebjaa.FS Go.Proofs.Ytiacdekbleebjaa.GF Go.Proofs.Ytiacdekbleebjaa.GS Go.Proofs.Ytiacdekbleebjaa.ND Go.Proofs.Ytiacdekbleebjaa.GK Go.Proofs.Ytiacdekbleebjaa.GB Go.Proofs.Ytiacdekbleebjaa.TF Go.Proofs.Ytiacdekbleebjaa.KT Go.Proofs.Ytiacdekbleebjaa.KU Go.Proofs.YtiacdekbleebjaaW.PrintWords Go.Proofs.YtiacdekbleebjaaW.PrintLast Go.Proofs.YtiacdekbleebjaaW.PrintMore
set_option linter.unusedVariables false
set_option linter.unusedSimpArgs false
theorem k7_ev {W D : Int} {ks : List (List Int)} (h : gearB W D ks = true) (hk : ks.length ≤ 9223372036854775807) {l : List Int} (hl : l.length = ks.length) (hq : l.all inT = true) (R : ByteArray) : ∀ (m j : Nat) (a : List Int), j + m = l.length → IsD D a → a.length = W.toNat → txt (aft D (ks.drop j) (l.drop j) a) = R →
    Ev (fun k => laws_FnKnobsTurnOfAll.l2 k R (txt a) l (l.length : Int) (j : Int) W D ks) true
  | 0, j, a, hj, ha, la, hR => by
    refine Ev.succ ?_
    simp only [laws_FnKnobsTurnOfAll.l2, if_neg (show ¬ (j : Int) < (l.length : Int) by omega)]
    rw [List.drop_of_length_le (by omega), List.drop_of_length_le (by omega)] at hR
    simp only [aft] at hR
    rw [hR, beq_self_eq_true]
    exact Ev.now _
  | m + 1, j, a, hj, ha, la, hR => by
    obtain ⟨t1, t2, t3⟩ := after_step h hl hq (show j < l.length by omega) ha la
    refine Ev.succ ?_
    simp only [laws_FnKnobsTurnOfAll.l2, if_pos (show (j : Int) < (l.length : Int) by omega), if_pos (show (0 : Int) ≤ (j : Int) by omega), rd_get l j (show j < l.length by omega)]
    refine Ev.bind (turn_both W D ks (txt a) (j : Int) _ hk (by rw [txt_size]; have := LK.w (gear_rk h).1.1; omega)).2 ?_
    have hn := (gear_rk h).2.1
    rw [t1]
    simp only [if_true, w64 (x := (j : Int) + 1) (by omega) (by omega)]
    refine k7_ev h hk hl hq R m (j + 1) _ (by omega) t2 t3 ?_
    rw [← aft_cons D (show j < ks.length by omega) (show j < l.length by omega)]
    exact hR
theorem k5_ev (c : ByteArray) (i t : Int) (d : ByteArray) (l : List Int) (W D : Int) (ks : List (List Int)) (W7 D7 : Int) (ks7 : List (List Int)) (hk : ks.length ≤ 9223372036854775807) (hk7 : ks7.length ≤ 9223372036854775807) (hc : c.size ≤ 140737488351232) (hd : d.size ≤ 140737488351232) (hl : l.length ≤ 10000) (ht : -9223372036854775808 ≤ t ∧ t ≤ 9223372036854775807) :
    Ev (fun k => laws_FnKnobsTurnOfAll.j5 k c i t d l W D ks W7 D7 ks7) true := by
  obtain ⟨s1, i1⟩ := turn_both W D ks c i t hk hc
  obtain ⟨s2, i2⟩ := after_both W7 D7 ks7 d l hk7 (by omega) hd
  refine Ev.succ ?_
  simp only [laws_FnKnobsTurnOfAll.j5]
  refine Ev.bind i1 (Ev.bind s1 (Ev.bind i2 (Ev.bind s2 ?_)))
  simp only [bne_self_eq_false, Bool.false_eq_true, if_false, if_true]
  refine Ev.succ ?_
  simp only [laws_FnKnobsTurnOfAll.j6, Bool.false_eq_true, if_false]
  have j7 : Ev (fun k => laws_FnKnobsTurnOfAll.j7 k d l (kaR W7 D7 ks7 d l).1 (kaR W7 D7 ks7 d l).2 W7 D7 ks7) true := by
    refine Ev.succ ?_
    simp only [laws_FnKnobsTurnOfAll.j7]
    by_cases q : kaOk W7 D7 ks7 d l = true
    · obtain ⟨o, cl, ca⟩ := ka_parts q
      obtain ⟨g, ic, l1, d1, e1⟩ := one_parts o
      have e : kaR W7 D7 ks7 d l = (txt (aft D7 ks7 l (digs d)), true) := by unfold kaR; rw [if_pos q]
      rw [e]
      simp only [if_true]
      have := k7_ev g hk7 cl ca (txt (aft D7 ks7 l (digs d))) l.length 0 (digs d) (by omega) d1 l1 (by rw [List.drop_zero, List.drop_zero])
      rw [e1] at this
      exact this
    · have e : kaR W7 D7 ks7 d l = (⟨#[]⟩, false) := by unfold kaR; rw [if_neg q]
      rw [e]
      simp only [Bool.false_eq_true, if_false]
      exact Ev.now _
  by_cases q : tkOk W D ks c i t = true
  · obtain ⟨o, ci, ct⟩ := tk_parts q
    obtain ⟨g, ic, l1, d1, e1⟩ := one_parts o
    have e : (tkR W D ks c i t).2 = true := by unfold tkR; rw [if_pos q]
    obtain ⟨p, p1, p2, p3, p4⟩ := period_ev g ci hk
    have sz := tk_size W D ks c i t hc
    have b1 := (turn_both W D ks (tkR W D ks c i t).1 i (-t) hk sz).2
    rw [tk_back q] at b1
    have b2 := (turn_both W D ks c i p hk hc).2
    have ep : tkR W D ks c i p = (c, true) := by
      have dd := LK.d (gear_rk g).1.1
      have q2 : tkOk W D ks c i p = true := by
        unfold tkOk inT
        rw [Bool.and_eq_true, Bool.and_eq_true, decide_eq_true_eq, decide_eq_true_eq]
        exact ⟨o, ci, by omega⟩
      unfold tkR
      rw [if_pos q2, p4 _ d1 l1, e1]
    rw [ep] at b2
    simp only [e, if_true, w64 (x := -t) (by omega) (by omega)]
    refine Ev.bind b1 (Ev.bind p1 (Ev.bind b2 ?_))
    simp only [if_true, if_neg (show ¬ p < 1 by omega), if_neg (show ¬ p > D by omega)]
    exact j7
  · have e : (tkR W D ks c i t).2 = false := by unfold tkR; rw [if_neg q]
    simp only [e, Bool.false_eq_true, if_false]
    exact j7
theorem k1_ev (x4 : ByteArray) (x5 x6 : Int) (x8 : ByteArray) (x9 : List Int) (W D : Int) (ks : List (List Int)) (a b : Int) (ls : List (List Int)) (a' b' : Int) (ls' : List (List Int)) (l : List Int) (hl : l.length ≤ 1000) (hi : IsD D l) (h5 : Ev (fun k => laws_FnKnobsTurnOfAll.j5 k x4 x5 x6 x8 x9 a b ls a' b' ls') true) :
    Ev (fun k => laws_FnKnobsTurnOfAll.l1 k x4 x5 x6 x8 x9 l (l.length : Int) 0 W D ks a b ls a' b' ls') true := by
  refine ev_loop (g := fun j k => laws_FnKnobsTurnOfAll.l1 k x4 x5 x6 x8 x9 l (l.length : Int) (j : Int) W D ks a b ls a' b' ls') l.length ?_ ?_
  · intro j hj ih
    have hx := IsD.get hi hj
    refine Ev.succ ?_
    simp only [laws_FnKnobsTurnOfAll.l1, if_pos (show (j : Int) < (l.length : Int) by omega), if_pos (show (0 : Int) ≤ (j : Int) by omega), rd_get l j hj, if_neg (show ¬ l[j] < 0 by omega), if_neg (show ¬ l[j] ≥ D by omega), w64 (x := (j : Int) + 1) (by omega) (by omega)]
    exact ih
  · refine Ev.succ ?_
    simp only [laws_FnKnobsTurnOfAll.l1, if_neg (show ¬ ((l.length : Nat) : Int) < (l.length : Int) by omega)]
    exact h5
theorem k0_ev {W D : Int} {ks : List (List Int)} (g : gearB W D ks = true) (hk : ks.length ≤ 9223372036854775807) {t : Nat} (ht : t < NN W D) (c d x4 : ByteArray) (x5 x6 : Int) (x8 : ByteArray) (x9 : List Int) (x21 : Int) (x25 : List S48) (x29 : List Int) (a b : Int) (ls : List (List Int)) (a' b' : Int) (ls' : List (List Int)) (L : List S48) (hL : L.length ≤ 1000000)
    (fin : Ev (fun k => laws_FnKnobsTurnOfAll.l0 k c d x4 x5 x6 x8 x9 x21 x25 x29 (co W D t) L (L.length : Int) (L.length : Int) W D ks a b ls a' b' ls') true) : ∀ (n v i : Nat), v < NN W D → dt (tbK W D ks t) v = (n : Int) → i + n = L.length → L.drop i = (gwy (nbK W D ks) (tbK W D ks t) n v).map trn →
    Ev (fun k => laws_FnKnobsTurnOfAll.l0 k c d x4 x5 x6 x8 x9 x21 x25 x29 (co W D v) L (L.length : Int) (i : Int) W D ks a b ls a' b' ls') true
  | 0, v, i, hv, hd, hi, hD => by
    have T := tbK_tab (gear_w g) ht
    rw [T.zero v hd, show i = L.length by omega]
    exact fin
  | n + 1, v, i, hv, hd, hi, hD => by
    obtain ⟨s1, s2, s3, s4⟩ := walk_step g hk ht hv hd hD (by omega)
    refine Ev.succ ?_
    simp only [laws_FnKnobsTurnOfAll.l0, if_pos (show (i : Int) < (L.length : Int) by omega), if_pos (show (0 : Int) ≤ (i : Int) by omega)]
    refine Ev.bind (turn_both W D ks (co W D v) _ _ hk (co_size W D (gear_rk g).1.1 v)).2 ?_
    rw [s1]
    simp only [if_true, w64 (x := (i : Int) + 1) (by omega) (by omega)]
    exact k0_ev g hk ht c d x4 x5 x6 x8 x9 x21 x25 x29 a b ls a' b' ls' L hL fin n _ (i + 1) s2 s3 (by omega) s4
theorem FnKnobsTurnOfAll : ∀ (a0_0 : Int) (a0_1 : Int) (l0_2 : List (List Int)) (a1 : ByteArray) (a2 : ByteArray) (a3_0 : Int) (a3_1 : Int) (l3_2 : List (List Int)) (a4 : ByteArray) (a5 : Int) (a6 : Int) (a7_0 : Int) (a7_1 : Int) (l7_2 : List (List Int)) (a8 : ByteArray) (l9 : List Int), (-9223372036854775808 ≤ a0_0 ∧ a0_0 ≤ 9223372036854775807) → (-9223372036854775808 ≤ a0_1 ∧ a0_1 ≤ 9223372036854775807) → l0_2.length ≤ 9223372036854775807 → (∀ x ∈ l0_2, x.length ≤ 9223372036854775807) → a1.size ≤ 140737488351232 → a2.size ≤ 140737488351232 → (-9223372036854775808 ≤ a3_0 ∧ a3_0 ≤ 9223372036854775807) → (-9223372036854775808 ≤ a3_1 ∧ a3_1 ≤ 9223372036854775807) → l3_2.length ≤ 9223372036854775807 → (∀ x ∈ l3_2, x.length ≤ 9223372036854775807) → a4.size ≤ 140737488351232 → (-9223372036854775808 ≤ a5 ∧ a5 ≤ 9223372036854775807) → (-9223372036854775808 ≤ a6 ∧ a6 ≤ 9223372036854775807) → (-9223372036854775808 ≤ a7_0 ∧ a7_0 ≤ 9223372036854775807) → (-9223372036854775808 ≤ a7_1 ∧ a7_1 ≤ 9223372036854775807) → l7_2.length ≤ 9223372036854775807 → (∀ x ∈ l7_2, x.length ≤ 9223372036854775807) → a8.size ≤ 140737488351232 → l9.length ≤ 9223372036854775807 → ∃ k, laws_FnKnobsTurnOfAll.f k a0_0 a0_1 l0_2 a1 a2 a3_0 a3_1 l3_2 a4 a5 a6 a7_0 a7_1 l7_2 a8 l9 = some true := by
  intro W D ks c d W3 D3 ks3 c4 i5 t6 W7 D7 ks7 d8 l9 _ _ hk _ hc hd _ _ hk3 _ hc4 _ ht _ _ hk7 _ hd8 hl9
  refine ev_ex ?_
  unfold laws_FnKnobsTurnOfAll.f
  have out : Ev (fun k => laws_FnKnobsTurnOfAll.j0 k c d c4 i5 t6 d8 l9 true W D ks W3 D3 ks3 W7 D7 ks7) true := by
    refine Ev.succ ?_
    simp only [laws_FnKnobsTurnOfAll.j0, if_true]
    exact Ev.now _
  by_cases c1 : (c.size : Int) > 1048576
  · simp only [if_pos c1]; exact out
  by_cases c2 : (d.size : Int) > 1048576
  · simp only [if_neg c1, if_pos c2]; exact out
  by_cases c3 : (c4.size : Int) > 1048576
  · simp only [if_neg c1, if_neg c2, if_pos c3]; exact out
  by_cases c5 : (d8.size : Int) > 1048576
  · simp only [if_neg c1, if_neg c2, if_neg c3, if_pos c5]; exact out
  simp only [if_neg c1, if_neg c2, if_neg c3, if_neg c5]
  by_cases c6 : (l9.length : Int) > 10000
  · rw [decide_eq_true c6]; exact out
  rw [decide_eq_false c6]
  have h5 := k5_ev c4 i5 t6 d8 l9 W3 D3 ks3 W7 D7 ks7 hk3 hk7 hc4 hd8 (by omega) ht
  obtain ⟨f1, f2⟩ := few_both W D ks c d hk hc hd
  obtain ⟨g1, g2⟩ := knobs_both W D ks c d hk hc hd
  obtain ⟨t1, t2⟩ := times_both W D ks c d hk hc hd
  have ar := areGears_ev W D ks hk
  have jg := joGood_ev W D ks hk
  have len := gk_len W D ks c d
  have lt := tm_len W D ks c d
  refine Ev.succ ?_
  simp only [laws_FnKnobsTurnOfAll.j0, Bool.false_eq_true, if_false]
  refine Ev.bind f2 (Ev.bind f1 (Ev.bind g2 (Ev.bind g1 (Ev.bind t2 (Ev.bind t1 ?_)))))
  have e1 : (fewK W D ks c d).2 = (gkR W D ks c d).2 := rfl
  have e2 := tm_ok W D ks c d
  simp only [bne_self_eq_false, Bool.false_eq_true, if_false, if_true]
  refine Ev.bind (eTurns_ev _ (by omega)) ?_
  simp only [if_true]
  refine Ev.bind (eSame_ev _ (by omega)) ?_
  simp only [if_true, e1, e2, bne_self_eq_false, Bool.false_eq_true, if_false]
  refine Ev.bind ar (Ev.bind (by unfold spec_AreGears.f; exact Ev.bind jg (Ev.now _)) ?_)
  simp only [bne_self_eq_false, Bool.false_eq_true, if_false]
  by_cases y : (gkR W D ks c d).2 = true
  · obtain ⟨q, dp⟩ := gk_true y
    have q' := q
    unfold gkOk at q'
    rw [Bool.and_eq_true, Bool.and_eq_true] at q'
    obtain ⟨g, i1, i2⟩ := q'
    have h := (gear_rk g).1.1
    have hw := gear_w g
    have hf := no_lt h i1
    have hto := no_lt h i2
    have ec := co_no h i1
    have ed := co_no h i2
    simp only [y, if_true]
    refine Ev.bind ar ?_
    rw [g]
    refine Ev.succ ?_
    simp only [laws_FnKnobsTurnOfAll.j1, Bool.not_true, Bool.false_eq_true, if_false, if_true]
    obtain ⟨n, en, eL⟩ := gk_list q dp
    have len2 : (gkR W D ks c d).1.length = n := by rw [eL, List.length_map, gwy_len]
    have fin := k0_ev g hk hto c d c4 i5 t6 d8 l9 (fewK W D ks c d).1 (gkR W D ks c d).1 (tmR W D ks c d).1 W3 D3 ks3 W7 D7 ks7 (gkR W D ks c d).1 (by omega) ?_ n (no D c) 0 hf en (by omega) (by rw [List.drop_zero]; exact eL)
    · rw [ec] at fin
      exact fin
    · rw [ed]
      refine Ev.succ ?_
      simp only [laws_FnKnobsTurnOfAll.l0, if_neg (show ¬ (((gkR W D ks c d).1.length : Nat) : Int) < ((gkR W D ks c d).1.length : Int) by omega)]
      obtain ⟨m1, m2, m3⟩ := tm_facts q dp
      refine Ev.bind (after_both W D ks c (tmR W D ks c d).1 hk (by omega) hc).2 ?_
      refine Ev.bind (few_both W D ks d c hk hd hc).2 (Ev.bind (first_ev (by unfold okOne; rw [Bool.and_eq_true]; exact ⟨g, i1⟩) hk hc) (Ev.bind (first_ev (by unfold okOne; rw [Bool.and_eq_true]; exact ⟨g, i2⟩) hk hd) ?_))
      rw [m3, few_symm W D ks c d q, first_same hw hf hto (by rw [tbK_symm hw hf hto]; exact dp)]
      have e3 : (fewK W D ks c d).2 = true := y
      have e4 : ((gkR W D ks c d).1.length : Int) = (fewK W D ks c d).1 := rfl
      have z := few_zero q dp
      simp only [e3, e4, if_true, if_pos (show ((tmR W D ks c d).1.length : Int) = (ks.length : Int) by omega), z, bne_self_eq_false]
      refine Ev.succ ?_
      simp only [laws_FnKnobsTurnOfAll.j3, Bool.false_eq_true, if_false]
      exact k1_ev c4 i5 t6 d8 l9 W D ks W3 D3 ks3 W7 D7 ks7 _ (by have := (gear_rk g).2.1; omega) m2 h5
  · have y' := Bool.eq_false_iff.mpr y
    simp only [y', Bool.false_eq_true, if_false]
    refine Ev.succ ?_
    simp only [laws_FnKnobsTurnOfAll.j1, Bool.false_eq_true, if_false]
    exact h5
end Go.Proofs.Ytiacdekbleebjaa.Pure
