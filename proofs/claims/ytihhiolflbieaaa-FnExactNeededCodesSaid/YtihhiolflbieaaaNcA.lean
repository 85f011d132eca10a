/- Plain facts: wraps of remainders, numbers of codes read by the program, and what the laws' own helpers answer (equal lists, marks that are held). No conditions. -/
import Derived.Test.YtihhiolflbieaaaNcL
import Derived.Test.YtihhiolflbieaaaPx5
import Derived.Test.YtihhiolflbieaaaPx28
import Derived.Test.YtihhiolflbieaaaPx49
import Derived.Test.YtihhiolflbieaaaPx75
import Derived.Test.YtihhiolflbieaaaPx125
namespace Go.Proofs.Ytihhiolflbieaaa.A
open Go.RowKit Go.Proofs.Ytihhiolflbieaaa.P Go.Proofs.Ytihhiolflbieaaa.B Go.Proofs.Ytihhiolflbieaaa.C Go.Proofs.Ytihhiolflbieaaa.L Go.Proofs.YtihhiolflbieaaaW.PrintWords Go.Proofs.YtihhiolflbieaaaW.PrintLast Go.Proofs.YtihhiolflbieaaaW.PrintMore
set_option linter.unusedVariables false
set_option linter.unusedSimpArgs false

theorem tm {a D : Int} (hD : 0 < D) : Int.tmod (Int.tmod a D + D) D = a % D ∧ 0 < Int.tmod a D + D ∧ Int.tmod a D + D < 2 * D := by
  have key : ∃ t q, Int.tmod a D = t ∧ -D < t ∧ t < D ∧ a = t + q * D := by
    by_cases h : 0 ≤ a
    · refine ⟨a % D, a / D, Int.tmod_eq_emod_of_nonneg h, ?_, Int.emod_lt_of_pos _ hD, ?_⟩
      · have := Int.emod_nonneg a (b := D) (by omega); omega
      · rw [Int.mul_comm, Int.emod_add_mul_ediv]
    · refine ⟨-((-a) % D), -((-a) / D), ?_, ?_, ?_, ?_⟩
      · have e := Int.neg_tmod (a := -a) (b := D)
        rw [Int.neg_neg] at e
        rw [e, Int.tmod_eq_emod_of_nonneg (by omega)]
      · have := Int.emod_lt_of_pos (-a) hD; omega
      · have := Int.emod_nonneg (-a) (b := D) (by omega); omega
      · have := Int.emod_add_mul_ediv (-a) D
        rw [Int.neg_mul, Int.mul_comm]; omega
  obtain ⟨t, q, ht, h1, h2, ha⟩ := key
  refine ⟨?_, by omega, by omega⟩
  rw [ht, Int.tmod_eq_emod_of_nonneg (by omega), Int.add_emod_right, ha, Int.add_mul_emod_self_right]

theorem around_eq {a D : Int} (hD : 1 ≤ D ∧ D ≤ 1000) : impl_around.f a D = some (a % D) := by
  unfold impl_around.f
  obtain ⟨h1, h2, h3⟩ := tm (a := a) (show 0 < D by omega)
  rw [if_neg (by omega), w64 (by omega) (by omega), h1]
theorem l1Mod_eq {a D : Int} (hD : 1 ≤ D ∧ D ≤ 1000) : spec_l1Mod.f a D = some (a % D) := by
  unfold spec_l1Mod.f
  obtain ⟨h1, h2, h3⟩ := tm (a := a) (show 0 < D by omega)
  rw [if_neg (by omega), w64 (by omega) (by omega), h1]

theorem pow_le {D : Int} (h0 : 0 < D) (h : D ≤ 10) : ∀ n : Nat, D ^ n ≤ 10 ^ n
  | 0 => by simp
  | n + 1 => by
    rw [Int.pow_succ, Int.pow_succ]
    have a := pow_le h0 h n
    have p := pw_pos h0 n
    have b : D ^ n * D ≤ D ^ n * 10 := Int.mul_le_mul_of_nonneg_left h (by omega)
    omega
theorem ten_le {n : Nat} (h : n ≤ 15) : (10 : Int) ^ n ≤ 1000000000000000 := by
  have : ((List.range 16).all fun n => decide ((10 : Int) ^ n ≤ 1000000000000000)) = true := by decide +kernel
  rw [List.all_eq_true] at this
  exact of_decide_eq_true (this n (List.mem_range.mpr (by omega)))
theorem pow15 {D : Int} (h0 : 0 < D) (h : D ≤ 10) {n : Nat} (hn : n ≤ 15) : D ^ n ≤ 1000000000000000 := Int.le_trans (pow_le h0 h n) (ten_le hn)

theorem IsD.take {D : Int} {d : List Int} (h : IsD D d) (j : Nat) : IsD D (d.take j) := fun x hx => h x (List.mem_of_mem_take hx)
theorem IsD.drop {D : Int} {d : List Int} (h : IsD D d) (j : Nat) : IsD D (d.drop j) := fun x hx => h x (List.mem_of_mem_drop hx)
theorem IsD.get {D : Int} {d : List Int} (h : IsD D d) {j : Nat} (hj : j < d.length) : 0 ≤ d[j] ∧ d[j] < D := h _ (List.getElem_mem hj)
theorem num_small {D : Int} (hD : 2 ≤ D ∧ D ≤ 10) {d : List Int} (h : IsD D d) (hl : d.length ≤ 15) : 0 ≤ num D d ∧ num D d < 1000000000000000 := by
  have a := num_bd (show 0 < D by omega) d h
  have b := pow15 (show 0 < D by omega) hD.2 hl
  omega

theorem number_ev (W : Int) {D : Int} (hD : 2 ≤ D ∧ D ≤ 10) (s : ByteArray) (hs : s.size ≤ 15) (h : isT D s = true) : Ev (fun k => impl_Lock_number.f k W D s) (num D (digs s)) := by
  unfold impl_Lock_number.f
  refine Ev.bind (digits_ev s (by omega)) ?_
  have hd := digs_isD hD h (W := W)
  have hl : (digs s).length ≤ 15 := by rw [digs_len]; exact hs
  generalize digs s = d at *
  refine ev_loop (g := fun j k => impl_Lock_number.l0 k (num D (d.take j)) d (d.length : Int) (j : Int) W D) d.length ?_ ?_
  · intro j hj ih
    have b := num_small hD (IsD.take hd j) (by rw [List.length_take]; omega)
    have x := IsD.get hd hj
    have hm : num D (d.take j) * D ≤ num D (d.take j) * 10 := Int.mul_le_mul_of_nonneg_left hD.2 b.1
    have hm0 : 0 ≤ num D (d.take j) * D := Int.mul_nonneg b.1 (by omega)
    refine Ev.succ ?_
    simp only [impl_Lock_number.l0, if_pos (show (j : Int) < (d.length : Int) by omega), if_pos (show (0 : Int) ≤ (j : Int) by omega), rd_get d j hj, w64 (x := num D (d.take j) * D) (by omega) (by omega), w64 (x := num D (d.take j) * D + d[j]) (by omega) (by omega), w64 (x := (j : Int) + 1) (by omega) (by omega)]
    rw [List.take_succ_eq_append_getElem hj, num_snoc] at ih
    exact ih
  · refine Ev.succ ?_
    simp only [impl_Lock_number.l0, if_neg (show ¬ ((d.length : Nat) : Int) < (d.length : Int) by omega)]
    rw [List.take_of_length_le (Nat.le_refl _)]
    exact Ev.now _

theorem eqStringS_ev (l : List ByteArray) (hl : l.length ≤ 100000000000000) : Ev (fun k => laws_eqStringS.f k l l) true := by
  unfold laws_eqStringS.f
  simp only [if_true]
  refine ev_loop (g := fun j k => laws_eqStringS.l0 k l l (j : Int)) l.length ?_ ?_
  · intro j hj ih
    refine Ev.succ ?_
    simp only [laws_eqStringS.l0, if_pos (show (j : Int) < (l.length : Int) by omega), if_pos (show (0 : Int) ≤ (j : Int) by omega), if_true, w64 (x := (j : Int) + 1) (by omega) (by omega)]
    exact ih
  · refine Ev.succ ?_
    simp only [laws_eqStringS.l0, if_neg (show ¬ ((l.length : Nat) : Int) < (l.length : Int) by omega)]
    exact Ev.now _

theorem markText_some (n : Nat) : ∀ (m : Nat) (x : ByteArray), m ≤ n → m ≤ 1000000000000000 → x.size + m ≤ 2000000000000000 → ∃ r, Ev (fun k => laws_markText.l0 k (m : Int) x) r := by
  induction n with
  | zero =>
    intro m x hm _ hx
    obtain rfl : m = 0 := by omega
    refine ⟨(⟨#[109]⟩ : ByteArray) ++ x, Ev.succ ?_⟩
    simp only [laws_markText.l0, if_neg (show ¬ (((0 : Nat) : Int) > 0) by omega), if_pos (show 1 + x.size ≤ 9223372036854775807 by omega)]
    exact Ev.now _
  | succ n ih =>
    intro m x hm hb hx
    by_cases h : m = 0
    · subst h
      refine ⟨(⟨#[109]⟩ : ByteArray) ++ x, Ev.succ ?_⟩
      simp only [laws_markText.l0, if_neg (show ¬ (((0 : Nat) : Int) > 0) by omega), if_pos (show 1 + x.size ≤ 9223372036854775807 by omega)]
      exact Ev.now _
    · have e : Int.tdiv (m : Int) 10 = ((m / 10 : Nat) : Int) := by rw [Int.tdiv_eq_ediv_of_nonneg (by omega)]; rfl
      have sz : (strOfNums [(wrap64 (48 + (Int.tmod (m : Int) 10))) % 256]).size = 1 := by rw [strOfNums_size]; rfl
      obtain ⟨r, hr⟩ := ih (m / 10) (strOfNums [(wrap64 (48 + (Int.tmod (m : Int) 10))) % 256] ++ x) (by omega) (by omega) (by rw [ByteArray.size_append, sz]; omega)
      refine ⟨r, Ev.succ ?_⟩
      simp only [laws_markText.l0, if_pos (show (m : Int) > 0 by omega), Option.bind_some, sz, if_pos (show 1 + x.size ≤ 9223372036854775807 by omega), e, w64 (x := ((m / 10 : Nat) : Int)) (by omega) (by omega)]
      exact hr
theorem mark_some (m : Nat) (h : m ≤ 1000000000000000) : ∃ r, Ev (fun k => laws_markText.f k (m : Int)) r := by
  unfold laws_markText.f
  by_cases h0 : (m : Int) ≤ 0
  · simp only [if_pos h0]; exact ⟨_, Ev.now _⟩
  · simp only [if_neg h0]; exact markText_some m m _ (Nat.le_refl _) h (by simp [ByteArray.size]; omega)
open Classical in
noncomputable def mt (m : Nat) : ByteArray := epsilon fun r => Ev (fun k => laws_markText.f k (m : Int)) r
theorem mt_ev (m : Nat) (h : m ≤ 1000000000000000) : Ev (fun k => laws_markText.f k (m : Int)) (mt m) := Classical.epsilon_spec (mark_some m h)

theorem marked (l : List ByteArray) (hl : l.length ≤ 100000000000000) :
    Ev (fun k => laws_markStringS.f k l 1) ((l.length : Int) + 1, (List.range l.length).map fun j => mt (j + 1)) := by
  unfold laws_markStringS.f
  refine ev_loop (g := fun j k => laws_markStringS.l0 k (((List.range j).map fun j => mt (j + 1)) ++ l.drop j) ((j : Int) + 1) (j : Int)) l.length ?_ ?_
  · intro j hj ih
    refine Ev.succ ?_
    have e : (((List.range j).map fun j => mt (j + 1)) ++ l.drop j).length = l.length := by simp; omega
    simp only [laws_markStringS.l0, e, if_pos (show (j : Int) < (l.length : Int) by omega), if_pos (show (0 : Int) ≤ (j : Int) by omega), w64 (x := (j : Int) + 1) (by omega) (by omega), w64 (x := (j : Int) + 1 + 1) (by omega) (by omega)]
    refine Ev.bind (mt_ev (j + 1) (by omega)) ?_
    have e2 : ((((List.range j).map fun j => mt (j + 1)) ++ l.drop j).set (j : Int).toNat (mt (j + 1))) = ((List.range (j + 1)).map fun j => mt (j + 1)) ++ l.drop (j + 1) := by
      rw [Int.toNat_natCast, List.set_append_right _ _ (by simp), List.length_map, List.length_range, Nat.sub_self, List.drop_eq_getElem_cons hj, List.set_cons_zero, List.range_succ, List.map_append, List.append_assoc]
      rfl
    rw [e2]
    exact ih
  · refine Ev.succ ?_
    have e : (((List.range l.length).map fun j => mt (j + 1)) ++ l.drop l.length).length = l.length := by simp
    simp only [laws_markStringS.l0, e, if_neg (show ¬ ((l.length : Nat) : Int) < (l.length : Int) by omega)]
    rw [List.drop_of_length_le (Nat.le_refl _), List.append_nil]
    exact Ev.now _
theorem held (n : Nat) (hn : n ≤ 100000000000000) : Ev (fun k => laws_heldStringS.f k ((List.range n).map fun j => mt (j + 1)) 1) ((n : Int) + 1) := by
  unfold laws_heldStringS.f
  refine ev_loop (g := fun j k => laws_heldStringS.l0 k ((List.range n).map fun j => mt (j + 1)) ((j : Int) + 1) (j : Int)) n ?_ ?_
  · intro j hj ih
    refine Ev.succ ?_
    have e : ((List.range n).map fun j => mt (j + 1)).length = n := by simp
    have e2 : rdOf ByteArray.empty ((List.range n).map fun j => mt (j + 1)) (j : Int) = mt (j + 1) := by
      unfold rdOf; rw [Int.toNat_natCast, List.getD_eq_getElem?_getD, List.getElem?_map, List.getElem?_range hj]; rfl
    simp only [laws_heldStringS.l0, e, if_pos (show (j : Int) < (n : Int) by omega), if_pos (show (0 : Int) ≤ (j : Int) by omega), w64 (x := (j : Int) + 1) (by omega) (by omega), w64 (x := (j : Int) + 1 + 1) (by omega) (by omega), e2]
    refine Ev.bind (mt_ev (j + 1) (by omega)) ?_
    simp only [if_true]
    exact ih
  · refine Ev.succ ?_
    have e : ((List.range n).map fun j => mt (j + 1)).length = n := by simp
    simp only [laws_heldStringS.l0, e, if_neg (show ¬ ((n : Nat) : Int) < (n : Int) by omega)]
    exact Ev.now _

end Go.Proofs.Ytihhiolflbieaaa.A
