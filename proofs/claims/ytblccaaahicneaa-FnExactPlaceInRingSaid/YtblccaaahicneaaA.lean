/- Plain facts: wraps of remainders, numbers of codes read by the program, and what the laws' own helpers answer (equal lists, marks that are held). No conditions. -/
import Derived.Test.YtblccaaahicneaaL
import Derived.Test.YtblccaaahicneaaPx34
namespace Go.Proofs.Ytblccaaahicneaa.A
open Go.RowKit Go.Proofs.Ytblccaaahicneaa.P Go.Proofs.Ytblccaaahicneaa.B Go.Proofs.Ytblccaaahicneaa.C Go.Proofs.Ytblccaaahicneaa.L Go.Proofs.YtblccaaahicneaaW.PrintWords Go.Proofs.YtblccaaahicneaaW.PrintLast Go.Proofs.YtblccaaahicneaaW.PrintMore
set_option linter.unusedVariables false
set_option linter.unusedSimpArgs false

theorem tm {a D : Int} (hD : 0 < D) : Int.tmod (Int.tmod a D + D) D = a % D ∧ 0 < Int.tmod a D + D ∧ Int.tmod a D + D < 2 * D := by
  have key : ∃ t q, Int.tmod a D = t ∧ -D < t ∧ t < D ∧ a = t + q * D := by
    by_cases h : 0 ≤ a
    · refine ⟨a % D, a / D, Int.tmod_eq_emod_of_nonneg h, ?_, Int.emod_lt_of_pos _ hD, ?_⟩
      · have := Int.emod_nonneg a (b := D) (by omega); omega
      · rw [Int.mul_comm, Int.emod_add_mul_ediv]
    · refine ⟨-((-a) % D), -((-a) / D), ?_, ?_, ?_, ?_⟩
      · have e := Int.neg_tmod (a := -a) (b := D)
        rw [Int.neg_neg] at e
        rw [e, Int.tmod_eq_emod_of_nonneg (by omega)]
      · have := Int.emod_lt_of_pos (-a) hD; omega
      · have := Int.emod_nonneg (-a) (b := D) (by omega); omega
      · have := Int.emod_add_mul_ediv (-a) D
        rw [Int.neg_mul, Int.mul_comm]; omega
  obtain ⟨t, q, ht, h1, h2, ha⟩ := key
  refine ⟨?_, by omega, by omega⟩
  rw [ht, Int.tmod_eq_emod_of_nonneg (by omega), Int.add_emod_right, ha, Int.add_mul_emod_self_right]

theorem around_eq {a D : Int} (hD : 1 ≤ D ∧ D ≤ 1000) : impl_around.f a D = some (a % D) := by
  unfold impl_around.f
  obtain ⟨h1, h2, h3⟩ := tm (a := a) (show 0 < D by omega)
  rw [if_neg (by omega), w64 (by omega) (by omega), h1]
theorem pow_le {D : Int} (h0 : 0 < D) (h : D ≤ 10) : ∀ n : Nat, D ^ n ≤ 10 ^ n
  | 0 => by simp
  | n + 1 => by
    rw [Int.pow_succ, Int.pow_succ]
    have a := pow_le h0 h n
    have p := pw_pos h0 n
    have b : D ^ n * D ≤ D ^ n * 10 := Int.mul_le_mul_of_nonneg_left h (by omega)
    omega
theorem ten_le {n : Nat} (h : n ≤ 15) : (10 : Int) ^ n ≤ 1000000000000000 := by
  have : ((List.range 16).all fun n => decide ((10 : Int) ^ n ≤ 1000000000000000)) = true := by decide +kernel
  rw [List.all_eq_true] at this
  exact of_decide_eq_true (this n (List.mem_range.mpr (by omega)))
theorem pow15 {D : Int} (h0 : 0 < D) (h : D ≤ 10) {n : Nat} (hn : n ≤ 15) : D ^ n ≤ 1000000000000000 := Int.le_trans (pow_le h0 h n) (ten_le hn)

theorem IsD.take {D : Int} {d : List Int} (h : IsD D d) (j : Nat) : IsD D (d.take j) := fun x hx => h x (List.mem_of_mem_take hx)
theorem IsD.drop {D : Int} {d : List Int} (h : IsD D d) (j : Nat) : IsD D (d.drop j) := fun x hx => h x (List.mem_of_mem_drop hx)
theorem IsD.get {D : Int} {d : List Int} (h : IsD D d) {j : Nat} (hj : j < d.length) : 0 ≤ d[j] ∧ d[j] < D := h _ (List.getElem_mem hj)
theorem IsD.append {D : Int} {a b : List Int} (ha : IsD D a) (hb : IsD D b) : IsD D (a ++ b) := by
  intro x hx
  rcases List.mem_append.mp hx with h | h
  · exact ha x h
  · exact hb x h

theorem num_small {D : Int} (hD : 2 ≤ D ∧ D ≤ 10) {d : List Int} (h : IsD D d) (hl : d.length ≤ 15) : 0 ≤ num D d ∧ num D d < 1000000000000000 := by
  have a := num_bd (show 0 < D by omega) d h
  have b := pow15 (show 0 < D by omega) hD.2 hl
  omega

theorem eq_texts {s t : ByteArray} : s = t → s.toList = t.toList := fun h => by rw [h]

theorem cnt_pow {W D : Int} : cnt W D = D ^ W.toNat := rfl

/-! ### Equal lists, and marks -/
end Go.Proofs.Ytblccaaahicneaa.A
