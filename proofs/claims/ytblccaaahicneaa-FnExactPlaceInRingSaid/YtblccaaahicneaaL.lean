/- Plain facts on lists of digits: numbers, codes, the forth and back order, the round order. No program in sight. No conditions. -/
import Derived.Test.YtblccaaahicneaaC
namespace Go.Proofs.Ytblccaaahicneaa.L
open Go.Proofs.Ytblccaaahicneaa.C
set_option linter.unusedVariables false
set_option linter.unusedSimpArgs false

theorem pw_pos {D : Int} (h : 0 < D) : ∀ n : Nat, 0 < D ^ n
  | 0 => by simp
  | n + 1 => by rw [Int.pow_succ]; exact Int.mul_pos (pw_pos h n) h

/-! ### Numbers of lists -/
def num (D : Int) : List Int → Int
  | [] => 0
  | x :: xs => x * D ^ xs.length + num D xs

theorem IsD.cons {D x : Int} {xs : List Int} (h : IsD D (x :: xs)) : (0 ≤ x ∧ x < D) ∧ IsD D xs := ⟨h x (List.mem_cons_self ..), fun y hy => h y (List.mem_cons_of_mem _ hy)⟩
theorem IsD.mk {D x : Int} {xs : List Int} (h : 0 ≤ x ∧ x < D) (hs : IsD D xs) : IsD D (x :: xs) := by
  intro y hy
  rcases List.mem_cons.mp hy with rfl | hy
  · exact h
  · exact hs y hy
theorem IsD.nil {D : Int} : IsD D [] := fun y hy => by cases hy

theorem num_bd {D : Int} (hD : 0 < D) : ∀ d : List Int, IsD D d → 0 ≤ num D d ∧ num D d + 1 ≤ D ^ d.length
  | [], _ => by simp [num]
  | x :: xs, h => by
    obtain ⟨⟨h0, h1⟩, hs⟩ := IsD.cons h
    have ih := num_bd hD xs hs
    have hp := pw_pos hD xs.length
    have a : x * D ^ xs.length ≤ (D - 1) * D ^ xs.length := Int.mul_le_mul_of_nonneg_right (by omega) (by omega)
    have b : 0 ≤ x * D ^ xs.length := Int.mul_nonneg h0 (by omega)
    have c : (D - 1) * D ^ xs.length = D ^ xs.length * D - D ^ xs.length := by rw [Int.sub_mul, Int.one_mul, Int.mul_comm]
    simp only [num, List.length_cons, Int.pow_succ]
    omega

theorem num_append (D : Int) : ∀ a b : List Int, num D (a ++ b) = num D a * D ^ b.length + num D b
  | [], b => by simp [num]
  | x :: xs, b => by
    simp only [List.cons_append, num, num_append D xs b, List.length_append, Int.pow_add, Int.add_mul, Int.mul_assoc]
    omega
theorem num_snoc (D : Int) (a : List Int) (x : Int) : num D (a ++ [x]) = num D a * D + x := by
  rw [num_append]; simp [num, Int.pow_succ]

/-! ### The code with a number -/
def cod (D : Int) : Nat → Int → List Int
  | 0, _ => []
  | j + 1, n => (n / D ^ j % D) :: cod D j n

theorem cod_len (D : Int) : ∀ j n, (cod D j n).length = j
  | 0, _ => rfl
  | j + 1, n => by simp [cod, cod_len D j n]
theorem cod_isD {D : Int} (hD : 0 < D) : ∀ j n, IsD D (cod D j n)
  | 0, _ => IsD.nil
  | j + 1, n => IsD.mk ⟨Int.emod_nonneg _ (by omega), Int.emod_lt_of_pos _ hD⟩ (cod_isD hD j n)

theorem divmod {y q P : Int} (h0 : 0 ≤ y) (h1 : y < P) : (y + q * P) / P = q ∧ (y + q * P) % P = y := by
  constructor
  · rw [Int.add_mul_ediv_right _ _ (by omega), Int.ediv_eq_zero_of_lt h0 h1, Int.zero_add]
  · rw [Int.add_mul_emod_self_right, Int.emod_eq_of_lt h0 h1]

theorem cod_add {D : Int} (hD : 0 < D) : ∀ (j : Nat) (n t : Int), cod D j (n + t * D ^ j) = cod D j n
  | 0, _, _ => rfl
  | j + 1, n, t => by
    have e : t * D ^ (j + 1) = t * D * D ^ j := by rw [Int.pow_succ, Int.mul_comm (D ^ j) D, Int.mul_assoc]
    have hp := pw_pos hD j
    simp only [cod]
    rw [e, cod_add hD j n (t * D), Int.add_mul_ediv_right _ _ (by omega), Int.add_mul_emod_self_right]
theorem cod_mod {D : Int} (hD : 0 < D) (j : Nat) (n : Int) : cod D j (n % D ^ j) = cod D j n := by
  have := cod_add hD j (n % D ^ j) (n / D ^ j)
  rw [← this, Int.mul_comm, Int.emod_add_mul_ediv]

theorem num_cod {D : Int} (hD : 0 < D) : ∀ (j : Nat) (n : Int), num D (cod D j n) = n % D ^ j
  | 0, n => by simp [cod, num, Int.emod_one]
  | j + 1, n => by
    have hp := pw_pos hD j
    simp only [cod, num, cod_len, num_cod hD j n]
    have e1 := Int.emod_add_mul_ediv n (D ^ j)
    have e2 := Int.emod_add_mul_ediv (n / D ^ j) D
    have b1 := Int.emod_nonneg n (b := D ^ j) (by omega)
    have b2 := Int.emod_lt_of_pos n hp
    have c1 := Int.emod_nonneg (n / D ^ j) (b := D) (by omega)
    have c2 := Int.emod_lt_of_pos (n / D ^ j) hD
    have a : n / D ^ j % D * D ^ j ≤ (D - 1) * D ^ j := Int.mul_le_mul_of_nonneg_right (by omega) (by omega)
    have b : 0 ≤ n / D ^ j % D * D ^ j := Int.mul_nonneg c1 (by omega)
    have c : (D - 1) * D ^ j = D ^ j * D - D ^ j := by rw [Int.sub_mul, Int.one_mul, Int.mul_comm]
    have f : n = (n / D ^ j % D * D ^ j + n % D ^ j) + (n / D ^ j / D) * (D ^ j * D) := by
      have g : n / D ^ j * D ^ j = n / D ^ j % D * D ^ j + n / D ^ j / D * (D ^ j * D) := by
        conv => lhs; rw [← e2]
        rw [Int.add_mul, Int.mul_comm D (n / D ^ j / D), Int.mul_assoc, Int.mul_comm D (D ^ j)]
      rw [Int.mul_comm (n / D ^ j)] at g
      omega
    rw [Int.pow_succ]
    conv => rhs; rw [f]
    rw [Int.add_mul_emod_self_right]
    exact (Int.emod_eq_of_lt (by omega) (by omega)).symm

theorem cod_num {D : Int} (hD : 0 < D) : ∀ d : List Int, IsD D d → cod D d.length (num D d) = d
  | [], _ => rfl
  | x :: xs, h => by
    obtain ⟨⟨h0, h1⟩, hs⟩ := IsD.cons h
    have b := num_bd hD xs hs
    have hp := pw_pos hD xs.length
    have dm := divmod (q := x) b.1 (show num D xs < D ^ xs.length by omega)
    simp only [List.length_cons, cod, num]
    rw [Int.add_comm, dm.1, Int.emod_eq_of_lt h0 h1, cod_add hD, cod_num hD xs hs]

theorem num_inj {D : Int} (hD : 0 < D) {a b : List Int} (ha : IsD D a) (hb : IsD D b) (hl : a.length = b.length) (h : num D a = num D b) : a = b := by
  rw [← cod_num hD a ha, ← cod_num hD b hb, h, hl]

/-! ### The forth and back order -/
def ff (D : Int) : Int → List Int → List Int
  | _, [] => []
  | s, x :: xs => (if s % 2 = 1 then D - 1 - x else x) :: ff D (s * D + x) xs
def fi (D : Int) : Nat → Int → List Int
  | 0, _ => []
  | w + 1, r => (r / D ^ w) :: fi D w (if r / D ^ w % 2 = 1 then D ^ w - 1 - r % D ^ w else r % D ^ w)

theorem fi_len (D : Int) : ∀ w r, (fi D w r).length = w
  | 0, _ => rfl
  | w + 1, r => by simp [fi, fi_len D w]

/-- Of a number below D^(w+1): its first digit and the rest. -/
theorem parts {D : Int} (hD : 0 < D) (w : Nat) {r : Int} (h0 : 0 ≤ r) (h1 : r < D ^ (w + 1)) :
    0 ≤ r / D ^ w ∧ r / D ^ w < D ∧ 0 ≤ r % D ^ w ∧ r % D ^ w < D ^ w ∧ r = r % D ^ w + r / D ^ w * D ^ w := by
  have hp := pw_pos hD w
  rw [Int.pow_succ] at h1
  refine ⟨Int.ediv_nonneg h0 (by omega), Int.ediv_lt_of_lt_mul hp (by rw [Int.mul_comm]; exact h1), Int.emod_nonneg _ (by omega), Int.emod_lt_of_pos _ hp, ?_⟩
  rw [Int.mul_comm, Int.emod_add_mul_ediv]

theorem par_mul {s D : Int} (h : s % 2 = 1) : (s * D) % 2 = D % 2 := by
  rw [Int.mul_emod, h, Int.one_mul, Int.emod_emod_of_dvd _ (Int.dvd_refl 2)]
theorem par_mul0 {s D : Int} (h : ¬ s % 2 = 1) : (s * D) % 2 = 0 := by
  rw [Int.mul_emod, show s % 2 = 0 by omega, Int.zero_mul]; rfl

theorem ff_fi {D : Int} (hD : 0 < D) : ∀ (w : Nat) (s r : Int), 0 ≤ r → r < D ^ w → ff D s (cod D w r) = fi D w (if s % 2 = 1 then D ^ w - 1 - r else r)
  | 0, _, _, _, _ => rfl
  | w + 1, s, r, h0, h1 => by
    obtain ⟨q0, q1, y0, y1, e⟩ := parts hD w h0 h1
    have hp := pw_pos hD w
    generalize hq : r / D ^ w = q at *
    generalize hy : r % D ^ w = y at *
    have ec : cod D w r = cod D w y := by rw [e, cod_add hD]
    have ih := fun s => ff_fi hD w s y y0 y1
    simp only [cod, ff, hq, Int.emod_eq_of_lt q0 q1, ec, ih]
    by_cases hs : s % 2 = 1
    · have pm := par_mul (D := D) hs
      have er : D ^ (w + 1) - 1 - r = (D ^ w - 1 - y) + (D - 1 - q) * D ^ w := by
        rw [Int.pow_succ, e, Int.sub_mul, Int.sub_mul, Int.one_mul, Int.mul_comm D (D ^ w)]; omega
      have dm := divmod (y := D ^ w - 1 - y) (q := D - 1 - q) (P := D ^ w) (by omega) (by omega)
      simp only [hs, if_true, fi, er, dm.1, dm.2]
      congr 2
      by_cases hd : (D - 1 - q) % 2 = 1
      · rw [if_pos hd, if_neg (by omega)]; omega
      · rw [if_neg hd, if_pos (by omega)]
    · have pm := par_mul0 (D := D) hs
      simp only [hs, if_false, fi, hq, hy]
      congr 2
      by_cases hd : q % 2 = 1
      · rw [if_pos hd, if_pos (by omega)]
      · rw [if_neg hd, if_neg (by omega)]

theorem fi_isD {D : Int} (hD : 0 < D) : ∀ (w : Nat) (r : Int), 0 ≤ r → r < D ^ w → IsD D (fi D w r)
  | 0, _, _, _ => IsD.nil
  | w + 1, r, h0, h1 => by
    obtain ⟨q0, q1, y0, y1, e⟩ := parts hD w h0 h1
    refine IsD.mk ⟨q0, q1⟩ ?_
    split
    · exact fi_isD hD w _ (by omega) (by omega)
    · exact fi_isD hD w _ y0 y1

/-! ### Ranks in it -/
def fr (D : Int) : Int → List Int → Int
  | r, [] => r
  | r, x :: xs => fr D (r * D + (if r % 2 = 1 then D - 1 - x else x)) xs
def fb (D : Int) : List Int → Int
  | [] => 0
  | x :: xs => x * D ^ xs.length + (if x % 2 = 1 then D ^ xs.length - 1 - fb D xs else fb D xs)

theorem fb_bd {D : Int} (hD : 0 < D) : ∀ d : List Int, IsD D d → 0 ≤ fb D d ∧ fb D d + 1 ≤ D ^ d.length
  | [], _ => by simp [fb]
  | x :: xs, h => by
    obtain ⟨⟨h0, h1⟩, hs⟩ := IsD.cons h
    have ih := fb_bd hD xs hs
    have hp := pw_pos hD xs.length
    have a : x * D ^ xs.length ≤ (D - 1) * D ^ xs.length := Int.mul_le_mul_of_nonneg_right (by omega) (by omega)
    have b : 0 ≤ x * D ^ xs.length := Int.mul_nonneg h0 (by omega)
    have c : (D - 1) * D ^ xs.length = D ^ xs.length * D - D ^ xs.length := by rw [Int.sub_mul, Int.one_mul, Int.mul_comm]
    simp only [fb, List.length_cons, Int.pow_succ]
    split <;> omega

theorem fr_fb {D : Int} (hD : 0 < D) : ∀ (d : List Int) (r : Int), fr D r d = r * D ^ d.length + (if r % 2 = 1 then D ^ d.length - 1 - fb D d else fb D d)
  | [], r => by simp [fr, fb]
  | x :: xs, r => by
    simp only [fr, fb, List.length_cons]
    rw [fr_fb hD xs, Int.pow_succ]
    generalize D ^ xs.length = P
    have e1 : (r * D + (if r % 2 = 1 then D - 1 - x else x)) * P = r * (P * D) + (if r % 2 = 1 then P * D - P - x * P else x * P) := by
      rw [Int.add_mul, Int.mul_assoc, Int.mul_comm D P]
      congr 1
      split
      · rw [Int.sub_mul, Int.sub_mul, Int.one_mul, Int.mul_comm D P]
      · rfl
    rw [e1]
    by_cases hr : r % 2 = 1
    · have pm := par_mul (D := D) hr
      simp only [hr, if_true]
      by_cases hx : x % 2 = 1
      · rw [if_neg (by omega), if_pos hx]; omega
      · rw [if_pos (by omega), if_neg hx]; omega
    · have pm := par_mul0 (D := D) hr
      simp only [hr, if_false]
      by_cases hx : x % 2 = 1
      · rw [if_pos (by omega), if_pos hx]; omega
      · rw [if_neg (by omega), if_neg hx]; omega

theorem fb_fi {D : Int} (hD : 0 < D) : ∀ (w : Nat) (r : Int), 0 ≤ r → r < D ^ w → fb D (fi D w r) = r
  | 0, r, h0, h1 => by simp only [fi, fb]; rw [Int.pow_zero] at h1; omega
  | w + 1, r, h0, h1 => by
    obtain ⟨q0, q1, y0, y1, e⟩ := parts hD w h0 h1
    simp only [fi, fb, fi_len]
    by_cases hq : r / D ^ w % 2 = 1
    · simp only [hq, if_true]
      rw [fb_fi hD w _ (by omega) (by omega)]; omega
    · simp only [hq, if_false]
      rw [fb_fi hD w _ y0 y1]; omega
theorem fi_fb {D : Int} (hD : 0 < D) : ∀ (d : List Int), IsD D d → fi D d.length (fb D d) = d
  | [], _ => rfl
  | x :: xs, h => by
    obtain ⟨⟨h0, h1⟩, hs⟩ := IsD.cons h
    have b := fb_bd hD xs hs
    have ih := fi_fb hD xs hs
    simp only [List.length_cons, fi, fb]
    by_cases hx : x % 2 = 1
    · have dm := divmod (y := D ^ xs.length - 1 - fb D xs) (q := x) (P := D ^ xs.length) (by omega) (by omega)
      simp only [hx, if_true]
      rw [Int.add_comm, dm.1, dm.2]
      simp only [hx, if_true]
      rw [show D ^ xs.length - 1 - (D ^ xs.length - 1 - fb D xs) = fb D xs by omega, ih]
    · have dm := divmod (y := fb D xs) (q := x) (P := D ^ xs.length) (by omega) (by omega)
      simp only [hx, if_false]
      rw [Int.add_comm, dm.1, dm.2]
      simp only [hx, if_false]
      rw [ih]

/-! ### The round order -/
def df (D : Int) : Int → List Int → List Int
  | _, [] => []
  | p, x :: xs => ((x - p) % D) :: df D x xs
def ps (D : Int) : Int → List Int → List Int
  | _, [] => []
  | s, x :: xs => ((s + x) % D) :: ps D ((s + x) % D) xs
theorem df_len (D : Int) : ∀ (d : List Int) (p : Int), (df D p d).length = d.length
  | [], _ => rfl
  | x :: xs, p => by simp [df, df_len D xs]
theorem ps_len (D : Int) : ∀ (d : List Int) (p : Int), (ps D p d).length = d.length
  | [], _ => rfl
  | x :: xs, p => by simp [ps, ps_len D xs]
theorem df_isD {D : Int} (hD : 0 < D) : ∀ (d : List Int) (p : Int), IsD D (df D p d)
  | [], _ => IsD.nil
  | x :: xs, p => IsD.mk ⟨Int.emod_nonneg _ (by omega), Int.emod_lt_of_pos _ hD⟩ (df_isD hD xs x)
theorem ps_isD {D : Int} (hD : 0 < D) : ∀ (d : List Int) (p : Int), IsD D (ps D p d)
  | [], _ => IsD.nil
  | x :: xs, p => IsD.mk ⟨Int.emod_nonneg _ (by omega), Int.emod_lt_of_pos _ hD⟩ (ps_isD hD xs _)
theorem ps_df {D : Int} (hD : 0 < D) : ∀ (d : List Int) (p : Int), IsD D d → ps D p (df D p d) = d
  | [], _, _ => rfl
  | x :: xs, p, h => by
    obtain ⟨⟨h0, h1⟩, hs⟩ := IsD.cons h
    have e : (p + (x - p) % D) % D = x := by
      rw [Int.add_emod_emod, show p + (x - p) = x by omega, Int.emod_eq_of_lt h0 h1]
    simp only [df, ps, e, ps_df hD xs x hs]
theorem df_ps {D : Int} (hD : 0 < D) : ∀ (d : List Int) (p : Int), IsD D d → df D p (ps D p d) = d
  | [], _, _ => rfl
  | x :: xs, p, h => by
    obtain ⟨⟨h0, h1⟩, hs⟩ := IsD.cons h
    have e : ((p + x) % D - p) % D = x := by
      rw [Int.emod_sub_emod, show p + x - p = x by omega, Int.emod_eq_of_lt h0 h1]
    simp only [df, ps, e, df_ps hD xs _ hs]

/-! ### Codes at the distance 1 -/
/-- b is a with one digit turned by 1 or -1. -/
def Nx (D : Int) : List Int → List Int → Prop
  | x :: xs, y :: ys => (x = y ∧ Nx D xs ys) ∨ (xs = ys ∧ x ≠ y ∧ (y = (x + 1) % D ∨ y = (x - 1) % D))
  | _, _ => False

theorem Nx.symm {D : Int} : ∀ {a b : List Int}, IsD D a → IsD D b → Nx D a b → Nx D b a
  | [], [], _, _, h => h
  | [], _ :: _, _, _, h => h
  | _ :: _, [], _, _, h => h
  | x :: xs, y :: ys, ha, hb, h => by
    obtain ⟨⟨a0, a1⟩, ha'⟩ := IsD.cons ha
    obtain ⟨⟨b0, b1⟩, hb'⟩ := IsD.cons hb
    rcases h with ⟨e, h⟩ | ⟨rfl, hne, h⟩
    · exact .inl ⟨e.symm, Nx.symm ha' hb' h⟩
    · refine .inr ⟨rfl, fun e => hne e.symm, ?_⟩
      rcases h with h | h
      · right; rw [h, Int.emod_sub_emod, show x + 1 - 1 = x by omega, Int.emod_eq_of_lt a0 a1]
      · left; rw [h, Int.emod_add_emod, show x - 1 + 1 = x by omega, Int.emod_eq_of_lt a0 a1]

theorem fi_next {D : Int} (hD : 0 < D) : ∀ (w : Nat) (r : Int), 0 ≤ r → r + 1 < D ^ w → Nx D (fi D w r) (fi D w (r + 1))
  | 0, r, h0, h1 => by rw [Int.pow_zero] at h1; omega
  | w + 1, r, h0, h1 => by
    obtain ⟨q0, q1, y0, y1, e⟩ := parts hD w h0 (show r < D ^ (w + 1) by omega)
    have hp := pw_pos hD w
    generalize hq : r / D ^ w = q at *
    generalize hy : r % D ^ w = y at *
    by_cases hl : y + 1 < D ^ w
    · have dm := divmod (y := y + 1) (q := q) (P := D ^ w) (by omega) hl
      have e' : r + 1 = y + 1 + q * D ^ w := by omega
      have eq' : (r + 1) / D ^ w = q := by rw [e']; exact dm.1
      have ey' : (r + 1) % D ^ w = y + 1 := by rw [e']; exact dm.2
      simp only [fi, hq, hy, eq', ey']
      refine .inl ⟨rfl, ?_⟩
      by_cases hd : q % 2 = 1
      · simp only [hd, if_true]
        have := fi_next hD w (D ^ w - 1 - (y + 1)) (by omega) (by omega)
        rw [show D ^ w - 1 - (y + 1) + 1 = D ^ w - 1 - y by omega] at this
        exact Nx.symm (fi_isD hD w _ (by omega) (by omega)) (fi_isD hD w _ (by omega) (by omega)) this
      · simp only [hd, if_false]
        exact fi_next hD w y y0 hl
    · have dm := divmod (y := 0) (q := q + 1) (P := D ^ w) (by omega) hp
      have e' : r + 1 = 0 + (q + 1) * D ^ w := by rw [Int.add_mul, Int.one_mul]; omega
      have eq' : (r + 1) / D ^ w = q + 1 := by rw [e']; exact dm.1
      have ey' : (r + 1) % D ^ w = 0 := by rw [e']; exact dm.2
      have q2 : q + 1 < D := by
        obtain ⟨_, h, _⟩ := parts hD w (show 0 ≤ r + 1 by omega) h1
        rw [eq'] at h; exact h
      simp only [fi, hq, hy, eq', ey']
      refine .inr ⟨?_, by omega, .inl (Int.emod_eq_of_lt (by omega) q2).symm⟩
      congr 1
      by_cases hd : q % 2 = 1
      · rw [if_pos hd, if_neg (by omega)]; omega
      · rw [if_neg hd, if_pos (by omega)]; omega

/-- Around: the code with the next number has, in the round order, one digit turned by 1. -/
def N1 (D : Int) : List Int → List Int → Prop
  | x :: xs, y :: ys => (x = y ∧ N1 D xs ys) ∨ (xs = ys ∧ y = (x + 1) % D)
  | _, _ => False

theorem df_shift {D : Int} (hD : 1 < D) : ∀ (w : Nat) (p : Int), df D p (cod D w (D ^ w - 1)) = df D (p + 1) (cod D w 0)
  | 0, _ => rfl
  | w + 1, p => by
    have hp := pw_pos (show 0 < D by omega) w
    have e : D ^ (w + 1) - 1 = (D ^ w - 1) + (D - 1) * D ^ w := by
      rw [Int.pow_succ, Int.sub_mul, Int.one_mul, Int.mul_comm D]; omega
    have dm := divmod (y := D ^ w - 1) (q := D - 1) (P := D ^ w) (by omega) (by omega)
    simp only [cod, df]
    rw [show (D ^ (w + 1) - 1) / D ^ w = D - 1 by rw [e]; exact dm.1, Int.zero_ediv, Int.zero_emod, Int.emod_eq_of_lt (by omega) (by omega : D - 1 < D)]
    rw [show cod D w (D ^ (w + 1) - 1) = cod D w (D ^ w - 1) by rw [e, cod_add (by omega)]]
    rw [df_shift hD w (D - 1)]
    have e1 : (D - 1 - p) % D = (0 - (p + 1)) % D := by
      rw [show D - 1 - p = (0 - (p + 1)) + 1 * D by omega, Int.add_mul_emod_self_right]
    have e2 : df D (D - 1 + 1) (cod D w 0) = df D 0 (cod D w 0) := by
      cases w with
      | zero => rfl
      | succ w =>
        simp only [cod, df]
        congr 1
        rw [show D - 1 + 1 = D by omega, Int.zero_ediv, Int.zero_emod, show (0 : Int) - D = 0 + (-1) * D by omega, Int.add_mul_emod_self_right, Int.sub_zero]
    rw [e1, e2]

theorem round_next {D : Int} (hD : 1 < D) : ∀ (w : Nat) (p r : Int), 0 < w → 0 ≤ r → r < D ^ w → N1 D (df D p (cod D w r)) (df D p (cod D w ((r + 1) % D ^ w)))
  | 0, _, _, h, _, _ => absurd h (by omega)
  | w + 1, p, r, _, h0, h1 => by
    have hD0 : 0 < D := by omega
    obtain ⟨q0, q1, y0, y1, e⟩ := parts hD0 w h0 h1
    have hp := pw_pos hD0 w
    generalize hq : r / D ^ w = q at *
    generalize hy : r % D ^ w = y at *
    have ec : cod D w r = cod D w y := by rw [e, cod_add hD0]
    have c1 : cod D (w + 1) r = q :: cod D w y := by simp only [cod, hq, ec, Int.emod_eq_of_lt q0 q1]
    by_cases hl : y + 1 < D ^ w
    · have dm := divmod (y := y + 1) (q := q) (P := D ^ w) (by omega) hl
      have e' : r + 1 = y + 1 + q * D ^ w := by omega
      have hb : q * D ^ w ≤ (D - 1) * D ^ w := Int.mul_le_mul_of_nonneg_right (by omega) (by omega)
      have hc : (D - 1) * D ^ w = D ^ w * D - D ^ w := by rw [Int.sub_mul, Int.one_mul, Int.mul_comm]
      have hb0 : 0 ≤ q * D ^ w := Int.mul_nonneg q0 (by omega)
      have er : (r + 1) % D ^ (w + 1) = r + 1 := Int.emod_eq_of_lt (by omega) (by rw [Int.pow_succ]; omega)
      have c2 : cod D (w + 1) (r + 1) = q :: cod D w (y + 1) := by
        simp only [cod]
        rw [show (r + 1) / D ^ w = q by rw [e']; exact dm.1, Int.emod_eq_of_lt q0 q1, e', cod_add hD0]
      rw [er, c1, c2]
      simp only [df]
      refine .inl ⟨rfl, ?_⟩
      cases w with
      | zero => rw [Int.pow_zero] at hl; omega
      | succ w =>
        have := round_next hD (w + 1) q y (by omega) y0 y1
        rwa [Int.emod_eq_of_lt (by omega) hl] at this
    · have ey : y = D ^ w - 1 := by omega
      have c2 : cod D (w + 1) ((r + 1) % D ^ (w + 1)) = (q + 1) % D :: cod D w 0 := by
        rw [cod_mod hD0]
        have e' : r + 1 = 0 + (q + 1) * D ^ w := by rw [Int.add_mul, Int.one_mul]; omega
        have dm := divmod (y := 0) (q := q + 1) (P := D ^ w) (by omega) hp
        simp only [cod]
        rw [show (r + 1) / D ^ w = q + 1 by rw [e']; exact dm.1, e', cod_add hD0]
      rw [c1, c2]
      simp only [df]
      refine .inr ⟨?_, ?_⟩
      · rw [ey, df_shift hD w q]
        cases w with
        | zero => rfl
        | succ w =>
          simp only [cod, df]
          congr 1
          rw [Int.sub_emod_emod]
      · rw [Int.emod_sub_emod, Int.emod_add_emod, show q - p + 1 = q + 1 - p by omega]

theorem N1.nx {D : Int} (hD : 1 < D) : ∀ {a b : List Int}, IsD D a → N1 D a b → Nx D a b
  | [], [], _, h => h
  | [], _ :: _, _, h => h
  | _ :: _, [], _, h => h
  | x :: xs, y :: ys, ha, h => by
    obtain ⟨⟨a0, a1⟩, ha⟩ := IsD.cons ha
    rcases h with ⟨rfl, h⟩ | ⟨rfl, h⟩
    · exact .inl ⟨rfl, N1.nx hD ha h⟩
    · refine .inr ⟨rfl, ?_, .inl h⟩
      intro e
      by_cases hx : x + 1 < D
      · rw [Int.emod_eq_of_lt (by omega) hx] at h; omega
      · rw [show x + 1 = 0 + 1 * D by omega, Int.add_mul_emod_self_right, Int.zero_emod] at h; omega

end Go.Proofs.Ytblccaaahicneaa.L
