/- Plain facts that many proofs of this seat use: wraps, loops told from some number of rounds on, the functions that test locks and codes, told as plain Lean. No conditions. -/
import Derived.Test.YtihhiolflbieaaaPx2
import Derived.Test.YtihhiolflbieaaaPx32
import Derived.Test.YtihhiolflbieaaaPx71
namespace Go.Proofs.Ytihhiolflbieaaa.B
open Go.RowKit Go.Proofs.Ytihhiolflbieaaa.P Go.Proofs.YtihhiolflbieaaaW.PrintWords Go.Proofs.YtihhiolflbieaaaW.PrintLast Go.Proofs.YtihhiolflbieaaaW.PrintMore
set_option linter.unusedVariables false
set_option linter.unusedSimpArgs false

theorem w64 {x : Int} (h0 : -9223372036854775808 ≤ x) (h1 : x ≤ 9223372036854775807) : wrap64 x = x := by unfold wrap64; omega

theorem ev_loop {α : Type} {g : Nat → Nat → Option α} {r : α} (n : Nat) (step : ∀ j, j < n → Ev (g (j + 1)) r → Ev (g j) r) (fin : Ev (g n) r) : Ev (g 0) r := by
  have : ∀ d, d ≤ n → Ev (g (n - d)) r := by
    intro d
    induction d with
    | zero => intro _; exact fin
    | succ d ih =>
      intro hd
      have := step (n - (d + 1)) (by omega)
      rw [show n - (d + 1) + 1 = n - d by omega] at this
      exact this (ih (by omega))
  have := this n (Nat.le_refl n)
  rwa [Nat.sub_self] at this

/-- Behind the loop's rounds the answer may differ from round to round (an early return). -/
theorem ev_down {α : Type} {g : Nat → Nat → Option α} {R : Nat → α} (n : Nat) (step : ∀ j, j < n → Ev (g (j + 1)) (R (j + 1)) → Ev (g j) (R j)) (fin : Ev (g n) (R n)) : Ev (g 0) (R 0) := by
  have : ∀ d, d ≤ n → Ev (g (n - d)) (R (n - d)) := by
    intro d
    induction d with
    | zero => intro _; exact fin
    | succ d ih =>
      intro hd
      have := step (n - (d + 1)) (by omega)
      rw [show n - (d + 1) + 1 = n - d by omega] at this
      exact this (ih (by omega))
  have := this n (Nat.le_refl n)
  rwa [Nat.sub_self] at this

theorem ev_ex {g : Nat → Option Bool} (h : Ev g true) : ∃ k, g k = some true := h.rounds

def LK (W D : Int) : Prop := 1 ≤ W ∧ W ≤ 6 ∧ 2 ≤ D ∧ D ≤ 10
instance (W D : Int) : Decidable (LK W D) := by unfold LK; infer_instance

theorem for_good {p : Int → Int → Bool} (h : ((List.range 6).all fun i => (List.range 9).all fun j => p (i + 1) (j + 2)) = true) {W D : Int} (hg : LK W D) : p W D = true := by
  obtain ⟨h1, h2, h3, h4⟩ := hg
  rw [List.all_eq_true] at h
  have a := h (W.toNat - 1) (List.mem_range.mpr (by omega))
  rw [List.all_eq_true] at a
  have b := a (D.toNat - 2) (List.mem_range.mpr (by omega))
  rw [show ((W.toNat - 1 : Nat) : Int) + 1 = W by omega, show ((D.toNat - 2 : Nat) : Int) + 2 = D by omega] at b
  exact b

theorem l1In_eq (a b c : Int) : spec_l1In.f a b c = some (decide (b ≤ a ∧ a ≤ c)) := by
  unfold spec_l1In.f
  by_cases h : a ≥ b
  · rw [if_pos h]; congr 1; rw [decide_eq_decide]; omega
  · rw [if_neg h]; congr 1; symm; rw [decide_eq_false_iff_not]; omega
theorem within_eq (a b c : Int) : impl_within.f a b c = some (decide (b ≤ a ∧ a ≤ c)) := by
  unfold impl_within.f
  by_cases h : b ≤ a
  · rw [if_pos h]; congr 1; rw [decide_eq_decide]; omega
  · rw [if_neg h]; congr 1; symm; rw [decide_eq_false_iff_not]; omega
theorem whGood_eq (W D : Int) : spec_whGood.f W D = some (decide (LK W D)) := by
  unfold spec_whGood.f
  rw [l1In_eq, Option.bind_some, l1In_eq, Option.bind_some]
  by_cases h : 1 ≤ W ∧ W ≤ 6
  · rw [if_pos (decide_eq_true h)]; congr 1; rw [decide_eq_decide]; unfold LK; omega
  · rw [if_neg (by rw [decide_eq_false h]; decide)]; congr 1; symm; rw [decide_eq_false_iff_not]; unfold LK; omega
theorem IsLock_eq (W D : Int) : impl_IsLock.f W D = some (decide (LK W D)) := by
  unfold impl_IsLock.f
  rw [within_eq, Option.bind_some, within_eq, Option.bind_some]
  by_cases h : 1 ≤ W ∧ W ≤ 6
  · rw [if_pos (decide_eq_true h)]; congr 1; rw [decide_eq_decide]; unfold LK; omega
  · rw [if_neg (by rw [decide_eq_false h]; decide)]; congr 1; symm; rw [decide_eq_false_iff_not]; unfold LK; omega

def cnt (W D : Int) : Int := D ^ W.toNat
theorem cnt_bd {W D : Int} (h : LK W D) : 2 ≤ cnt W D ∧ cnt W D ≤ 1000000 := by
  have := for_good (p := fun W D => decide (2 ≤ cnt W D ∧ cnt W D ≤ 1000000)) (by decide +kernel) h
  exact of_decide_eq_true this
theorem whCount_ev {W D : Int} (h : LK W D) : Ev (fun k => spec_whCount.f k W D) (cnt W D) := by
  have := for_good (p := fun W D => decide (spec_whCount.f 8 W D = some (cnt W D))) (by decide +kernel) h
  exact Ev.of (fun k => spec_whCount.mono _ _ k) (of_decide_eq_true this)
theorem count_ev {W D : Int} (h : LK W D) : Ev (fun k => impl_Lock_count.f k W D) (cnt W D) := by
  have := for_good (p := fun W D => decide (impl_Lock_count.f 8 W D = some (cnt W D))) (by decide +kernel) h
  exact Ev.of (fun k => impl_Lock_count.mono _ _ k) (of_decide_eq_true this)
theorem isSmall_ev (W D m : Int) : Ev (fun k => impl_isSmall.f k W D m) (decide (LK W D ∧ cnt W D ≤ m)) := by
  unfold impl_isSmall.f
  refine Ev.congr (f := fun k => if decide (LK W D) = true then ((impl_Lock_count.f k W D).bind fun t => some (decide (t ≤ m))) else some false) (fun k => by rw [IsLock_eq, Option.bind_some]) ?_
  by_cases h : LK W D
  · refine Ev.congr (f := fun k => (impl_Lock_count.f k W D).bind fun t => some (decide (t ≤ m))) (fun k => by rw [if_pos (decide_eq_true h)]) ?_
    refine Ev.bind (count_ev h) ?_
    rw [show decide (LK W D ∧ cnt W D ≤ m) = decide (cnt W D ≤ m) by rw [decide_eq_decide]; simp [h]]
    exact Ev.now _
  · rw [show decide (LK W D ∧ cnt W D ≤ m) = false by rw [decide_eq_false_iff_not]; simp [h]]
    exact Ev.congr (f := fun _ => some false) (fun k => by rw [if_neg (by simp [h])]) (Ev.now _)

end Go.Proofs.Ytihhiolflbieaaa.B
