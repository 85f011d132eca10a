/- Dead codes: when both functions take texts for dead codes, and codes for live ones; the live codes beside a code. No conditions. -/
import Derived.Test.YtihhiolflbieaaaNcNX
import Derived.Test.YtihhiolflbieaaaPx62
import Derived.Test.YtihhiolflbieaaaPx73
namespace Go.Proofs.Ytihhiolflbieaaa.DE
open Go.RowKit Go.Proofs.Ytihhiolflbieaaa.P Go.Proofs.Ytihhiolflbieaaa.B Go.Proofs.Ytihhiolflbieaaa.C Go.Proofs.Ytihhiolflbieaaa.L Go.Proofs.Ytihhiolflbieaaa.A Go.Proofs.Ytihhiolflbieaaa.O Go.Proofs.Ytihhiolflbieaaa.O2 Go.Proofs.Ytihhiolflbieaaa.R Go.Proofs.Ytihhiolflbieaaa.RS Go.Proofs.Ytihhiolflbieaaa.S Go.Proofs.Ytihhiolflbieaaa.D1 Go.Proofs.Ytihhiolflbieaaa.D2 Go.Proofs.Ytihhiolflbieaaa.NX Go.Proofs.YtihhiolflbieaaaW.PrintWords Go.Proofs.YtihhiolflbieaaaW.PrintLast Go.Proofs.YtihhiolflbieaaaW.PrintMore
set_option linter.unusedVariables false
set_option linter.unusedSimpArgs false

theorem hasS_ev (l : List ByteArray) (s : ByteArray) (hl : l.length ≤ 1000000000) : Ev (fun k => spec_l1HasS.f k l s) (hasS l s) := by
  unfold spec_l1HasS.f
  have key := ev_down (g := fun j k => spec_l1HasS.l0 k s l (l.length : Int) (j : Int)) (R := fun j => hasS (l.drop j) s) l.length ?_ ?_
  · simpa using key
  · intro j hj ih
    have g : rdOf ByteArray.empty l (j : Int) = l[j] := by rw [rd_gt, gt_get l hj]
    have e : hasS (l.drop j) s = (decide (l[j] = s) || hasS (l.drop (j + 1)) s) := by
      rw [List.drop_eq_getElem_cons hj]
      unfold hasS
      rw [List.any_cons]
      congr 1
      rw [decide_eq_decide]
      exact ⟨fun q => byte_inj q, fun q => by rw [q]⟩
    refine Ev.succ ?_
    simp only [spec_l1HasS.l0, if_pos (show (j : Int) < (l.length : Int) by omega), if_pos (show (0 : Int) ≤ (j : Int) by omega), g, w64 (x := (j : Int) + 1) (by omega) (by omega)]
    by_cases q : l[j] = s
    · simp only [if_pos (toList_inj.mpr q)]
      rw [e, decide_eq_true q, Bool.true_or]; exact Ev.now _
    · simp only [if_neg (fun q_ => q (toList_inj.mp q_))]
      rw [e, decide_eq_false q, Bool.false_or]; exact ih
  · refine Ev.succ ?_
    simp only [spec_l1HasS.l0, if_neg (show ¬ ((l.length : Nat) : Int) < (l.length : Int) by omega)]
    rw [List.drop_length]; exact Ev.now _
theorem contains_eq (l : List ByteArray) (s : ByteArray) : Lib.containsS l s = hasS l s := by
  rw [Bool.eq_iff_iff, Lib.containsS_iff, hasS_iff]

def ls (l : List ByteArray) (j : Nat) : Bool := Op.bytesLess (gt l (j - 1)).toList (gt l j).toList
def okD (W D : Int) (l : List ByteArray) (j : Nat) : Bool := isC W D (gt l j) && (decide (j = 0) || ls l j)
def dFrom (W D : Int) (l : List ByteArray) (j : Nat) : Bool := (List.range (l.length - j)).all fun i => okD W D l (j + i)
def lFrom (l : List ByteArray) (j : Nat) : Bool := (List.range (l.length - j)).all fun i => ls l (j + i)
def deadB (W D : Int) (l : List ByteArray) : Bool := decide (l.length ≤ 60) && dFrom W D l 0
theorem from_step (p : Nat → Bool) {n j : Nat} (h : j < n) : ((List.range (n - j)).all fun i => p (j + i)) = (p j && (List.range (n - (j + 1))).all fun i => p (j + 1 + i)) := by
  rw [show n - j = (n - (j + 1)) + 1 by omega, List.range_succ_eq_map, List.all_cons, List.all_map]
  congr 2
  funext i
  show p (j + (i + 1)) = _
  rw [show j + (i + 1) = j + 1 + i by omega]
theorem deadB_len {W D : Int} {l : List ByteArray} (h : deadB W D l = true) : l.length ≤ 60 := by
  unfold deadB at h; rw [Bool.and_eq_true, decide_eq_true_eq] at h; exact h.1
theorem deadB_at {W D : Int} {l : List ByteArray} (h : deadB W D l = true) {j : Nat} (hj : j < l.length) : okD W D l j = true := by
  unfold deadB dFrom at h; rw [Bool.and_eq_true] at h
  have := List.all_eq_true.mp h.2 j (List.mem_range.mpr (by omega))
  rwa [Nat.zero_add] at this
theorem deadB_C {W D : Int} {l : List ByteArray} (h : deadB W D l = true) : ∀ s ∈ l, isC W D s = true := by
  intro s hs
  obtain ⟨j, hj, e⟩ := List.mem_iff_getElem.mp hs
  have := deadB_at h hj
  unfold okD at this
  rw [Bool.and_eq_true, gt_get l hj, e] at this
  exact this.1
theorem dead_split (W D : Int) (l : List ByteArray) : dFrom W D l 0 = (l.all (isC W D) && lFrom l 1) := by
  rw [Bool.eq_iff_iff, Bool.and_eq_true]
  unfold dFrom lFrom
  rw [List.all_eq_true, List.all_eq_true, List.all_eq_true]
  constructor
  · intro h
    have h' : ∀ j, j < l.length → isC W D (gt l j) = true ∧ (j = 0 ∨ ls l j = true) := fun j hj => by
      have := h j (List.mem_range.mpr (by omega))
      rw [Nat.zero_add] at this
      unfold okD at this
      rw [Bool.and_eq_true, Bool.or_eq_true, decide_eq_true_eq] at this
      exact this
    refine ⟨fun s hs => ?_, fun i hi => ?_⟩
    · obtain ⟨j, hj, e⟩ := List.mem_iff_getElem.mp hs
      rw [← e, ← gt_get l hj]; exact (h' j hj).1
    · have := List.mem_range.mp hi
      rcases (h' (1 + i) (by omega)).2 with q | q
      · omega
      · exact q
  · rintro ⟨h1, h2⟩ j hj
    have hj' := List.mem_range.mp hj
    rw [Nat.zero_add]
    unfold okD
    rw [Bool.and_eq_true, Bool.or_eq_true, decide_eq_true_eq]
    refine ⟨h1 _ (gt_mem l (by omega)), ?_⟩
    by_cases q : j = 0
    · exact .inl q
    · have := h2 (j - 1) (List.mem_range.mpr (by omega))
      rw [show 1 + (j - 1) = j by omega] at this
      exact .inr this
theorem deadLoop_ev (l : List ByteArray) (hl : l.length ≤ 60) : Ev (fun k => impl_areDead.l0 k l 1) (lFrom l 1) := by
  by_cases h0 : l.length = 0
  · refine Ev.succ ?_
    simp only [impl_areDead.l0, h0, if_neg (show ¬ (1 : Int) < ((0 : Nat) : Int) by omega)]
    have : lFrom l 1 = true := by unfold lFrom; rw [h0]; rfl
    rw [this]; exact Ev.now _
  have key := ev_down (g := fun j k => impl_areDead.l0 k l ((j + 1 : Nat) : Int)) (R := fun j => lFrom l (j + 1)) (l.length - 1) ?_ ?_
  · exact key
  · intro j hj ih
    have e : lFrom l (j + 1) = (ls l (j + 1) && lFrom l (j + 1 + 1)) := from_step (ls l) (by omega)
    have w1 : wrap64 (((j + 1 : Nat) : Int) - 1) = ((j : Nat) : Int) := by rw [w64 (by omega) (by omega)]; omega
    have w2 : wrap64 (((j + 1 : Nat) : Int) + 1) = ((j + 1 + 1 : Nat) : Int) := by rw [w64 (by omega) (by omega)]; omega
    refine Ev.succ ?_
    simp only [impl_areDead.l0, w1, w2, rd_gt, if_pos (show ((j + 1 : Nat) : Int) < (l.length : Int) by omega), if_pos (show (0 : Int) ≤ ((j + 1 : Nat) : Int) by omega), if_pos (show (0 : Int) ≤ ((j : Nat) : Int) by omega), if_pos (show ((j : Nat) : Int) < (l.length : Int) by omega)]
    by_cases q : Op.bytesLess (gt l j).toList (gt l (j + 1)).toList = true
    · simp only [if_pos q]
      rw [e, show ls l (j + 1) = true from q, Bool.true_and]; exact ih
    · simp only [if_neg q]
      rw [e, show ls l (j + 1) = false from Bool.eq_false_iff.mpr q, Bool.false_and]; exact Ev.now _
  · refine Ev.succ ?_
    simp only [impl_areDead.l0, if_neg (show ¬ ((l.length - 1 + 1 : Nat) : Int) < (l.length : Int) by omega)]
    have : lFrom l (l.length - 1 + 1) = true := by unfold lFrom; rw [show l.length - (l.length - 1 + 1) = 0 by omega]; rfl
    rw [this]; exact Ev.now _
theorem areDead_ev (W D : Int) (l : List ByteArray) (hl : l.length ≤ 140737488351232) (hs : ∀ s ∈ l, s.size ≤ 140737488351232) : Ev (fun k => impl_areDead.f k W D l) (decide (RK W D) && deadB W D l) := by
  unfold impl_areDead.f
  refine Ev.bind (isSmall_ev W D 1000) ?_
  by_cases h : RK W D
  · have h' : LK W D ∧ cnt W D ≤ 1000 := h
    simp only [decide_eq_true h', if_true, decide_eq_true h, Bool.true_and]
    unfold deadB
    by_cases hn : (l.length : Int) > 60
    · simp only [if_pos hn, decide_eq_false (show ¬ l.length ≤ 60 by omega), Bool.false_and]
      refine Ev.succ ?_
      simp only [impl_areDead.j0, if_true]; exact Ev.now _
    · simp only [if_neg hn, decide_eq_true (show l.length ≤ 60 by omega), Bool.true_and]
      refine Ev.bind (has_ev W D l hl hs) ?_
      rw [decide_eq_true h.1, Bool.true_and, dead_split]
      refine Ev.succ ?_
      by_cases q : l.all (isC W D) = true
      · simp only [impl_areDead.j0, q, Bool.not_true, Bool.false_eq_true, if_false, Bool.true_and]
        exact deadLoop_ev l (by omega)
      · simp only [impl_areDead.j0, Bool.eq_false_iff.mpr q, Bool.not_false, if_true, Bool.false_and]
        exact Ev.now _
  · have h' : ¬ (LK W D ∧ cnt W D ≤ 1000) := h
    simp only [decide_eq_false h', Bool.false_eq_true, if_false, decide_eq_false h, Bool.false_and]
    refine Ev.succ ?_
    simp only [impl_areDead.j0, if_true]; exact Ev.now _
theorem deList_ev {W D : Int} (h : LK W D) (l : List ByteArray) (hs : ∀ s ∈ l, s.size ≤ 140737488351232) : Ev (fun k => spec_deList.f k W D l) (deadB W D l) := by
  unfold spec_deList.f deadB
  by_cases hn : (l.length : Int) > 60
  · simp only [if_pos hn, decide_eq_false (show ¬ l.length ≤ 60 by omega), Bool.false_and]; exact Ev.now _
  · simp only [if_neg hn, decide_eq_true (show l.length ≤ 60 by omega), Bool.true_and]
    refine ev_down (g := fun j k => spec_deList.l0 k l l (l.length : Int) (j : Int) W D) (R := fun j => dFrom W D l j) l.length ?_ ?_
    · intro j hj ih
      have e : dFrom W D l j = (okD W D l j && dFrom W D l (j + 1)) := from_step (okD W D l) hj
      refine Ev.succ ?_
      simp only [spec_deList.l0, rd_gt, if_pos (show (j : Int) < (l.length : Int) by omega), if_pos (show (0 : Int) ≤ (j : Int) by omega), w64 (x := (j : Int) + 1) (by omega) (by omega)]
      refine Ev.bind (whCode_ev (LK.d h) (gt l j) (hs _ (gt_mem l hj))) ?_
      by_cases q : isC W D (gt l j) = true
      · simp only [q, if_true]
        by_cases z : j = 0
        · subst z
          simp only [if_neg (show ¬ ((0 : Nat) : Int) > 0 by omega)]
          rw [e, show okD W D l 0 = true by unfold okD; rw [q]; rfl, Bool.true_and]; exact ih
        · have w1 : wrap64 ((j : Int) - 1) = ((j - 1 : Nat) : Int) := by rw [w64 (by omega) (by omega)]; omega
          simp only [if_pos (show (j : Int) > 0 by omega), w1, rd_gt, if_pos (show (0 : Int) ≤ ((j - 1 : Nat) : Int) by omega), if_pos (show ((j - 1 : Nat) : Int) < (l.length : Int) by omega)]
          by_cases y : Op.bytesLess (gt l (j - 1)).toList (gt l j).toList = true
          · simp only [if_pos y]
            rw [e, show okD W D l j = true by unfold okD ls; rw [q, y, Bool.or_true]; rfl, Bool.true_and]; exact ih
          · simp only [if_neg y]
            rw [e, show okD W D l j = false by unfold okD ls; rw [Bool.eq_false_iff.mpr y, decide_eq_false z]; simp, Bool.false_and]; exact Ev.now _
      · simp only [Bool.eq_false_iff.mpr q, Bool.false_eq_true, if_false]
        rw [e, show okD W D l j = false by unfold okD; rw [Bool.eq_false_iff.mpr q]; rfl, Bool.false_and]; exact Ev.now _
    · refine Ev.succ ?_
      simp only [spec_deList.l0, if_neg (show ¬ ((l.length : Nat) : Int) < (l.length : Int) by omega)]
      have : dFrom W D l l.length = true := by unfold dFrom; rw [Nat.sub_self]; rfl
      rw [this]; exact Ev.now _
theorem deSmall_ev (W D : Int) : Ev (fun k => spec_deSmall.f k W D) (decide (RK W D)) := by
  unfold spec_deSmall.f
  by_cases h : LK W D
  · simp only [whGood_eq, Option.bind_some, decide_eq_true h, if_true]
    refine Ev.bind (whCount_ev h) ?_
    rw [show decide (RK W D) = decide (cnt W D ≤ 1000) by rw [decide_eq_decide]; unfold RK; simp [h]]
    exact Ev.now _
  · simp only [whGood_eq, Option.bind_some, decide_eq_false h, Bool.false_eq_true, if_false]
    rw [show decide (RK W D) = false by rw [decide_eq_false_iff_not]; unfold RK; simp [h]]
    exact Ev.now _

/-- A lock of few codes, dead codes of it, a live code. -/
def liveB (W D : Int) (l : List ByteArray) (c : ByteArray) : Bool := isC W D c && !hasS l c
theorem asked_ev (W D : Int) (l : List ByteArray) (c : ByteArray) (hs : ∀ s ∈ l, s.size ≤ 140737488351232) (hc : c.size ≤ 140737488351232) : Ev (fun k => spec_deAsked.f k W D l c) (decide (RK W D) && (deadB W D l && liveB W D l c)) := by
  unfold spec_deAsked.f
  refine Ev.bind (deSmall_ev W D) ?_
  by_cases h : RK W D
  · simp only [decide_eq_true h, if_true, Bool.true_and]
    refine Ev.bind (deList_ev h.1 l hs) ?_
    by_cases q : deadB W D l = true
    · simp only [q, if_true, Bool.true_and]
      refine Ev.bind (whCode_ev (LK.d h.1) c hc) ?_
      unfold liveB
      by_cases y : isC W D c = true
      · simp only [y, if_true, Bool.true_and]
        exact Ev.bind (hasS_ev l c (by have := deadB_len q; omega)) (Ev.now _)
      · simp only [Bool.eq_false_iff.mpr y, Bool.false_eq_true, if_false, Bool.false_and]; exact Ev.now _
    · simp only [Bool.eq_false_iff.mpr q, Bool.false_eq_true, if_false, Bool.false_and]; exact Ev.now _
  · simp only [decide_eq_false h, Bool.false_eq_true, if_false, Bool.false_and]; exact Ev.now _
theorem any_not (l cs : List ByteArray) : (!impl_areLive.any l cs) = cs.all fun c => !hasS l c := by
  unfold impl_areLive.any
  rw [List.not_any_eq_all_not]
  congr 1
  funext c
  rw [contains_eq]
theorem live_all (W D : Int) (l cs : List ByteArray) : (cs.all (isC W D) && cs.all fun c => !hasS l c) = cs.all (liveB W D l) := by
  induction cs with
  | nil => rfl
  | cons c cs ih =>
    rw [List.all_cons, List.all_cons, List.all_cons, ← ih]
    unfold liveB
    cases isC W D c <;> cases hasS l c <;> simp
theorem areLive_ev (W D : Int) (l cs : List ByteArray) (hl : l.length ≤ 140737488351232) (hs : ∀ s ∈ l, s.size ≤ 140737488351232) (hcl : cs.length ≤ 140737488351232) (hc : ∀ s ∈ cs, s.size ≤ 140737488351232) : Ev (fun k => impl_areLive.f k W D l cs) (decide (RK W D) && (deadB W D l && cs.all (liveB W D l))) := by
  unfold impl_areLive.f
  refine Ev.bind (areDead_ev W D l hl hs) ?_
  by_cases h : RK W D
  · simp only [decide_eq_true h, Bool.true_and]
    by_cases q : deadB W D l = true
    · simp only [q, if_true, Bool.true_and]
      refine Ev.bind (has_ev W D cs hcl hc) ?_
      rw [decide_eq_true h.1, Bool.true_and, ← live_all]
      by_cases y : cs.all (isC W D) = true
      · simp only [y, if_true, Bool.true_and, if_pos (show l.length ≤ 9223372036854775807 by omega), if_pos (show cs.length ≤ 9223372036854775807 by omega), any_not]
        exact Ev.now _
      · simp only [Bool.eq_false_iff.mpr y, Bool.false_eq_true, if_false, Bool.false_and]; exact Ev.now _
    · simp only [Bool.eq_false_iff.mpr q, Bool.false_eq_true, if_false, Bool.false_and]; exact Ev.now _
  · simp only [decide_eq_false h, Bool.false_and, Bool.false_eq_true, if_false]; exact Ev.now _

end Go.Proofs.Ytihhiolflbieaaa.DE
