/- Plain facts on lists of digits: numbers, codes, the forth and back order, the round order. No program in sight. No conditions. -/
import Derived.Test.YtihhiolflbieaaaNcC
import Derived.Test.YtihhiolflbieaaaPx0
namespace Go.Proofs.Ytihhiolflbieaaa.L
open Go.Proofs.Ytihhiolflbieaaa.C
set_option linter.unusedVariables false
set_option linter.unusedSimpArgs false

theorem pw_pos {D : Int} (h : 0 < D) : ∀ n : Nat, 0 < D ^ n
  | 0 => by simp
  | n + 1 => by rw [Int.pow_succ]; exact Int.mul_pos (pw_pos h n) h

def num (D : Int) : List Int → Int
  | [] => 0
  | x :: xs => x * D ^ xs.length + num D xs

theorem IsD.cons {D x : Int} {xs : List Int} (h : IsD D (x :: xs)) : (0 ≤ x ∧ x < D) ∧ IsD D xs := ⟨h x (List.mem_cons_self ..), fun y hy => h y (List.mem_cons_of_mem _ hy)⟩
theorem IsD.mk {D x : Int} {xs : List Int} (h : 0 ≤ x ∧ x < D) (hs : IsD D xs) : IsD D (x :: xs) := by
  intro y hy
  rcases List.mem_cons.mp hy with rfl | hy
  · exact h
  · exact hs y hy
theorem IsD.nil {D : Int} : IsD D [] := fun y hy => by cases hy

theorem num_bd {D : Int} (hD : 0 < D) : ∀ d : List Int, IsD D d → 0 ≤ num D d ∧ num D d + 1 ≤ D ^ d.length
  | [], _ => by simp [num]
  | x :: xs, h => by
    obtain ⟨⟨h0, h1⟩, hs⟩ := IsD.cons h
    have ih := num_bd hD xs hs
    have hp := pw_pos hD xs.length
    have a : x * D ^ xs.length ≤ (D - 1) * D ^ xs.length := Int.mul_le_mul_of_nonneg_right (by omega) (by omega)
    have b : 0 ≤ x * D ^ xs.length := Int.mul_nonneg h0 (by omega)
    have c : (D - 1) * D ^ xs.length = D ^ xs.length * D - D ^ xs.length := by rw [Int.sub_mul, Int.one_mul, Int.mul_comm]
    simp only [num, List.length_cons, Int.pow_succ]
    omega

theorem num_append (D : Int) : ∀ a b : List Int, num D (a ++ b) = num D a * D ^ b.length + num D b
  | [], b => by simp [num]
  | x :: xs, b => by
    simp only [List.cons_append, num, num_append D xs b, List.length_append, Int.pow_add, Int.add_mul, Int.mul_assoc]
    omega
theorem num_snoc (D : Int) (a : List Int) (x : Int) : num D (a ++ [x]) = num D a * D + x := by
  rw [num_append]; simp [num, Int.pow_succ]

def cod (D : Int) : Nat → Int → List Int
  | 0, _ => []
  | j + 1, n => (n / D ^ j % D) :: cod D j n

theorem cod_len (D : Int) : ∀ j n, (cod D j n).length = j
  | 0, _ => rfl
  | j + 1, n => by simp [cod, cod_len D j n]
theorem cod_isD {D : Int} (hD : 0 < D) : ∀ j n, IsD D (cod D j n)
  | 0, _ => IsD.nil
  | j + 1, n => IsD.mk ⟨Int.emod_nonneg _ (by omega), Int.emod_lt_of_pos _ hD⟩ (cod_isD hD j n)

theorem divmod {y q P : Int} (h0 : 0 ≤ y) (h1 : y < P) : (y + q * P) / P = q ∧ (y + q * P) % P = y := by
  constructor
  · rw [Int.add_mul_ediv_right _ _ (by omega), Int.ediv_eq_zero_of_lt h0 h1, Int.zero_add]
  · rw [Int.add_mul_emod_self_right, Int.emod_eq_of_lt h0 h1]

theorem cod_add {D : Int} (hD : 0 < D) : ∀ (j : Nat) (n t : Int), cod D j (n + t * D ^ j) = cod D j n
  | 0, _, _ => rfl
  | j + 1, n, t => by
    have e : t * D ^ (j + 1) = t * D * D ^ j := by rw [Int.pow_succ, Int.mul_comm (D ^ j) D, Int.mul_assoc]
    have hp := pw_pos hD j
    simp only [cod]
    rw [e, cod_add hD j n (t * D), Int.add_mul_ediv_right _ _ (by omega), Int.add_mul_emod_self_right]
theorem num_cod {D : Int} (hD : 0 < D) : ∀ (j : Nat) (n : Int), num D (cod D j n) = n % D ^ j
  | 0, n => by simp [cod, num, Int.emod_one]
  | j + 1, n => by
    have hp := pw_pos hD j
    simp only [cod, num, cod_len, num_cod hD j n]
    have e1 := Int.emod_add_mul_ediv n (D ^ j)
    have e2 := Int.emod_add_mul_ediv (n / D ^ j) D
    have b1 := Int.emod_nonneg n (b := D ^ j) (by omega)
    have b2 := Int.emod_lt_of_pos n hp
    have c1 := Int.emod_nonneg (n / D ^ j) (b := D) (by omega)
    have c2 := Int.emod_lt_of_pos (n / D ^ j) hD
    have a : n / D ^ j % D * D ^ j ≤ (D - 1) * D ^ j := Int.mul_le_mul_of_nonneg_right (by omega) (by omega)
    have b : 0 ≤ n / D ^ j % D * D ^ j := Int.mul_nonneg c1 (by omega)
    have c : (D - 1) * D ^ j = D ^ j * D - D ^ j := by rw [Int.sub_mul, Int.one_mul, Int.mul_comm]
    have f : n = (n / D ^ j % D * D ^ j + n % D ^ j) + (n / D ^ j / D) * (D ^ j * D) := by
      have g : n / D ^ j * D ^ j = n / D ^ j % D * D ^ j + n / D ^ j / D * (D ^ j * D) := by
        conv => lhs; rw [← e2]
        rw [Int.add_mul, Int.mul_comm D (n / D ^ j / D), Int.mul_assoc, Int.mul_comm D (D ^ j)]
      rw [Int.mul_comm (n / D ^ j)] at g
      omega
    rw [Int.pow_succ]
    conv => rhs; rw [f]
    rw [Int.add_mul_emod_self_right]
    exact (Int.emod_eq_of_lt (by omega) (by omega)).symm

theorem cod_num {D : Int} (hD : 0 < D) : ∀ d : List Int, IsD D d → cod D d.length (num D d) = d
  | [], _ => rfl
  | x :: xs, h => by
    obtain ⟨⟨h0, h1⟩, hs⟩ := IsD.cons h
    have b := num_bd hD xs hs
    have hp := pw_pos hD xs.length
    have dm := divmod (q := x) b.1 (show num D xs < D ^ xs.length by omega)
    simp only [List.length_cons, cod, num]
    rw [Int.add_comm, dm.1, Int.emod_eq_of_lt h0 h1, cod_add hD, cod_num hD xs hs]

/-- b is a with one digit turned by 1 or -1. -/
def Nx (D : Int) : List Int → List Int → Prop
  | x :: xs, y :: ys => (x = y ∧ Nx D xs ys) ∨ (xs = ys ∧ x ≠ y ∧ (y = (x + 1) % D ∨ y = (x - 1) % D))
  | _, _ => False

theorem Nx.symm {D : Int} : ∀ {a b : List Int}, IsD D a → IsD D b → Nx D a b → Nx D b a
  | [], [], _, _, h => h
  | [], _ :: _, _, _, h => h
  | _ :: _, [], _, _, h => h
  | x :: xs, y :: ys, ha, hb, h => by
    obtain ⟨⟨a0, a1⟩, ha'⟩ := IsD.cons ha
    obtain ⟨⟨b0, b1⟩, hb'⟩ := IsD.cons hb
    rcases h with ⟨e, h⟩ | ⟨rfl, hne, h⟩
    · exact .inl ⟨e.symm, Nx.symm ha' hb' h⟩
    · refine .inr ⟨rfl, fun e => hne e.symm, ?_⟩
      rcases h with h | h
      · right; rw [h, Int.emod_sub_emod, show x + 1 - 1 = x by omega, Int.emod_eq_of_lt a0 a1]
      · left; rw [h, Int.emod_add_emod, show x - 1 + 1 = x by omega, Int.emod_eq_of_lt a0 a1]

/-- Around: the code with the next number has, in the round order, one digit turned by 1. -/
def N1 (D : Int) : List Int → List Int → Prop
  | x :: xs, y :: ys => (x = y ∧ N1 D xs ys) ∨ (xs = ys ∧ y = (x + 1) % D)
  | _, _ => False

theorem N1.nx {D : Int} (hD : 1 < D) : ∀ {a b : List Int}, IsD D a → N1 D a b → Nx D a b
  | [], [], _, h => h
  | [], _ :: _, _, h => h
  | _ :: _, [], _, h => h
  | x :: xs, y :: ys, ha, h => by
    obtain ⟨⟨a0, a1⟩, ha⟩ := IsD.cons ha
    rcases h with ⟨rfl, h⟩ | ⟨rfl, h⟩
    · exact .inl ⟨rfl, N1.nx hD ha h⟩
    · refine .inr ⟨rfl, ?_, .inl h⟩
      intro e
      by_cases hx : x + 1 < D
      · rw [Int.emod_eq_of_lt (by omega) hx] at h; omega
      · rw [show x + 1 = 0 + 1 * D by omega, Int.add_mul_emod_self_right, Int.zero_emod] at h; omega

end Go.Proofs.Ytihhiolflbieaaa.L
