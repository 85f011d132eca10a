/- Lists of texts put in order, each once: how many they are. No conditions. -/
import Derived.Test.YtihhiolflbieaaaNcRS
import Derived.Test.YtihhiolflbieaaaPx71
namespace Go.Proofs.Ytihhiolflbieaaa.S
open Go.RowKit Go.Proofs.Ytihhiolflbieaaa.P Go.Proofs.Ytihhiolflbieaaa.B Go.Proofs.Ytihhiolflbieaaa.C Go.Proofs.Ytihhiolflbieaaa.L Go.Proofs.Ytihhiolflbieaaa.A Go.Proofs.Ytihhiolflbieaaa.O Go.Proofs.Ytihhiolflbieaaa.O2 Go.Proofs.Ytihhiolflbieaaa.O3 Go.Proofs.Ytihhiolflbieaaa.R Go.Proofs.Ytihhiolflbieaaa.RS Go.Proofs.YtihhiolflbieaaaW.PrintWords Go.Proofs.YtihhiolflbieaaaW.PrintLast Go.Proofs.YtihhiolflbieaaaW.PrintMore
set_option linter.unusedVariables false
set_option linter.unusedSimpArgs false

theorem comp_mem (zs : List (List UInt8)) (x : List UInt8) : ∀ m, (x ∈ Lib.compactUpTo zs.toArray m ↔ ∃ j, j < m ∧ zs.toArray[j]! = x)
  | 0 => by
    constructor
    · intro h; simp [Lib.compactUpTo] at h
    · rintro ⟨j, hj, _⟩; omega
  | m + 1 => by
    rw [Lib.compactUpTo_succ, List.mem_append, comp_mem zs x m]
    constructor
    · rintro (⟨j, hj, e⟩ | h)
      · exact ⟨j, by omega, e⟩
      · by_cases hk : Lib.keeps zs.toArray m = true
        · rw [if_pos hk, List.mem_singleton] at h
          exact ⟨m, by omega, h.symm⟩
        · rw [if_neg hk] at h; cases h
    · rintro ⟨j, hj, e⟩
      by_cases hm : j = m
      · subst hm
        by_cases hk : Lib.keeps zs.toArray j = true
        · right; rw [if_pos hk, List.mem_singleton]; exact e.symm
        · left
          unfold Lib.keeps at hk
          rw [decide_eq_true_eq] at hk
          refine ⟨j - 1, by omega, ?_⟩
          by_cases q : zs.toArray[j]! = zs.toArray[j - 1]!
          · rw [← q]; exact e
          · exact absurd (Or.inr q) hk
      · exact .inl ⟨j, by omega, e⟩

theorem asc {zs : List (List UInt8)} (h : zs.Pairwise (· ≤ ·)) {i j : Nat} (hij : i ≤ j) (hj : j < zs.length) : zs.toArray[i]! ≤ zs.toArray[j]! := by
  have hi : i < zs.length := by omega
  have e : ∀ k, k < zs.length → zs.toArray[k]! = zs.getD k default := by
    intro k hk
    simp [hk]
  rw [e i hi, e j hj, List.getD_eq_getElem?_getD, List.getD_eq_getElem?_getD, List.getElem?_eq_getElem hi, List.getElem?_eq_getElem hj]
  by_cases q : i = j
  · subst q; exact List.le_refl _
  · exact List.pairwise_iff_getElem.mp h i j hi hj (by omega)

theorem comp_nodup {zs : List (List UInt8)} (h : zs.Pairwise (· ≤ ·)) : ∀ m, m ≤ zs.length → (Lib.compactUpTo zs.toArray m).Nodup
  | 0, _ => by simp [Lib.compactUpTo]
  | m + 1, hm => by
    rw [Lib.compactUpTo_succ]
    by_cases hk : Lib.keeps zs.toArray m = true
    · rw [if_pos hk]
      rw [List.nodup_append]
      refine ⟨comp_nodup h m (by omega), by simp, ?_⟩
      intro a ha b hb e
      rw [List.mem_singleton] at hb
      subst hb
      obtain ⟨j, hj, q⟩ := (comp_mem zs a m).mp ha
      unfold Lib.keeps at hk
      rw [decide_eq_true_eq] at hk
      rcases hk with hk | hk
      · omega
      · have h1 := asc h (show j ≤ m - 1 by omega) (by omega)
        have h2 := asc h (show m - 1 ≤ m by omega) (by omega)
        rw [q, e] at h1
        exact hk (List.le_antisymm h1 h2)
    · rw [if_neg hk, List.append_nil]
      exact comp_nodup h m (by omega)

theorem bs_sorted (l : List ByteArray) : (impl_sorted.bs l).Pairwise (· ≤ ·) := by
  unfold impl_sorted.bs
  have := List.pairwise_mergeSort (le := fun x y : List UInt8 => decide (x ≤ y)) (fun a b c h1 h2 => by
    rw [decide_eq_true_eq] at *
    exact List.le_trans h1 h2) (fun a b => by
    rw [Bool.or_eq_true, decide_eq_true_eq, decide_eq_true_eq]
    exact List.le_total a b) (l.map fun s => s.data.toList)
  exact this.imp fun h => of_decide_eq_true h

theorem val_mem (l : List ByteArray) (s : ByteArray) : s ∈ impl_sorted.val l ↔ s ∈ l := by
  unfold impl_sorted.val Lib.compact
  rw [List.mem_map]
  have key : ∀ x : List UInt8, x ∈ Lib.compactUpTo (impl_sorted.bs l).toArray (impl_sorted.bs l).length ↔ x ∈ l.map fun s => s.data.toList := by
    intro x
    rw [comp_mem]
    have : (x ∈ l.map fun s => s.data.toList) ↔ x ∈ impl_sorted.bs l := by unfold impl_sorted.bs; rw [List.mem_mergeSort]
    rw [this, List.mem_iff_getElem]
    constructor
    · rintro ⟨j, hj, e⟩
      refine ⟨j, hj, ?_⟩
      rw [← e]; simp [hj]
    · rintro ⟨j, hj, e⟩
      refine ⟨j, hj, ?_⟩
      rw [← e]; simp [hj]
  constructor
  · rintro ⟨b, hb, rfl⟩
    obtain ⟨t, ht, e⟩ := List.mem_map.mp ((key b).mp hb)
    rw [← e]
    exact ht
  · intro hs
    exact ⟨s.data.toList, (key _).mpr (List.mem_map.mpr ⟨s, hs, rfl⟩), by rfl⟩
end Go.Proofs.Ytihhiolflbieaaa.S
