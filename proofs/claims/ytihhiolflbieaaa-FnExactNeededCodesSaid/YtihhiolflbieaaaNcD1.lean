/- Distances of codes, and orders of codes by one turn each: what both functions answer. No conditions. -/
import Derived.Test.YtihhiolflbieaaaNcO2
import Derived.Test.YtihhiolflbieaaaNcRS
import Derived.Test.YtihhiolflbieaaaPx0
namespace Go.Proofs.Ytihhiolflbieaaa.D1
open Go.RowKit Go.Proofs.Ytihhiolflbieaaa.P Go.Proofs.Ytihhiolflbieaaa.B Go.Proofs.Ytihhiolflbieaaa.C Go.Proofs.Ytihhiolflbieaaa.L Go.Proofs.Ytihhiolflbieaaa.A Go.Proofs.Ytihhiolflbieaaa.O Go.Proofs.Ytihhiolflbieaaa.O2 Go.Proofs.Ytihhiolflbieaaa.R Go.Proofs.Ytihhiolflbieaaa.RS Go.Proofs.YtihhiolflbieaaaW.PrintWords Go.Proofs.YtihhiolflbieaaaW.PrintLast Go.Proofs.YtihhiolflbieaaaW.PrintMore
set_option linter.unusedVariables false
set_option linter.unusedSimpArgs false

theorem up_mod {D x : Int} (hx : 0 ≤ x ∧ x < D) (hD : 2 ≤ D) : (x + 1) % D = if x + 1 < D then x + 1 else 0 := by
  split
  · exact Int.emod_eq_of_lt (by omega) (by omega)
  · have : x + 1 = D := by omega
    rw [this, Int.emod_self]
theorem dn_mod {D x : Int} (hx : 0 ≤ x ∧ x < D) (hD : 2 ≤ D) : (x - 1) % D = if 0 < x then x - 1 else D - 1 := by
  split
  · exact Int.emod_eq_of_lt (by omega) (by omega)
  · rw [← Int.add_emod_right]; have : x - 1 + D = D - 1 := by omega
    rw [this]; exact Int.emod_eq_of_lt (by omega) (by omega)
theorem tur_nx {D : Int} (hD : 2 ≤ D) : ∀ {a : List Int} {i : Nat} {e : Int}, IsD D a → i < a.length → e = 1 ∨ e = -1 → Nx D a (tur D i e a)
  | [], i, e, _, hi, _ => absurd hi (by simp)
  | x :: xs, 0, e, ha, hi, he => by
    obtain ⟨hx, _⟩ := IsD.cons ha
    have u := up_mod hx hD; have d := dn_mod hx hD
    unfold tur
    simp only [List.getD_cons_zero, List.set_cons_zero, Nx]
    right
    refine ⟨trivial, ?_, ?_⟩
    · rcases he with rfl | rfl
      · rw [u]; split <;> omega
      · rw [show x + -1 = x - 1 by omega, d]; split <;> omega
    · rcases he with rfl | rfl
      · exact .inl rfl
      · exact .inr (by rw [show x + -1 = x - 1 by omega])
  | x :: xs, i + 1, e, ha, hi, he => by
    obtain ⟨_, ha'⟩ := IsD.cons ha
    have := tur_nx hD (a := xs) (i := i) (e := e) ha' (by simpa using hi) he
    unfold tur at this ⊢
    simp only [List.getD_cons_succ, List.set_cons_succ, Nx]
    exact .inl ⟨trivial, this⟩
end Go.Proofs.Ytihhiolflbieaaa.D1
