-- Texts of this session's own program (wip/dr.py), which runs the kit's printer.
import Derived.Test.YtihhiolflbieaaaPx0
import Derived.Test.YtihhiolflbieaaaPx2
import Derived.Test.YtihhiolflbieaaaPx5
namespace Go.Proofs.Ytihhiolflbieaaa.P
open Go.RowKit Go.Proofs.YtihhiolflbieaaaW.PrintWords Go.Proofs.YtihhiolflbieaaaW.PrintLast Go.Proofs.YtihhiolflbieaaaW.PrintMore
attribute [local go_sem] q_leq q_gtr q_geq max2_int min2_int max_two min_two max_three min_three max_four min_four   -- for this text's walks alone
set_option linter.unusedVariables false
set_option linter.unusedSimpArgs false

/-! ### spec_l1Num: function 152 -/
def spec_l1Num.f : Nat → Int → Option (ByteArray)
  | 0, _ => none
  | k + 1, a0 => if a0 < 10 then (some (strOfNums (([(wrap64 (48 + a0)) % 256] : List Int)))) else ((spec_l1Num.f k (wrap64 (Int.tdiv a0 10))).bind fun t431 => ((some (([(wrap64 (48 + (Int.tmod a0 10))) % 256] : List Int) : List Int)).bind fun y432 => (if t431.size + (strOfNums y432).size ≤ 9223372036854775807 then (some (t431 ++ (strOfNums y432))) else (none))))
theorem spec_l1Num.mono_l : ∀ k, (∀ y0, LeO (spec_l1Num.f k y0) (spec_l1Num.f (k + 1) y0))
  | 0 => fun _ r h => by simp [spec_l1Num.f] at h
  | k + 1 => by
    have ih0 := spec_l1Num.mono_l k
    · intro y0
      unfold spec_l1Num.f
      repeat' first
      | (with_reducible exact ih0 _)
      | (with_reducible exact LeO.refl _)
      | (with_reducible exact LeO.none _)
      | (with_reducible refine LeO.ite ?_ ?_)
      | (with_reducible refine LeO.bind ?_ (fun _ => ?_))
      | exact ih0 _
      | exact LeO.none _
      | refine LeO.ite ?_ ?_
      | refine LeO.bind ?_ (fun _ => ?_)
theorem spec_l1Num.mono : ∀ a0 k, LeO (spec_l1Num.f k a0) (spec_l1Num.f (k + 1) a0) := by
  intro a0 k
  have ih0 := spec_l1Num.mono_l k
  exact ih0 a0
def spec_l1Num.T3 : Bool × List (List Nat × List Nat) := (true, [([], []), ([0], [0]), ([1], [1]), ([], []), ([3], [3]), ([4], [4]), ([5], [5]), ([6], [6]), ([7], [7]), ([2, 8], [2, 8]), ([9, 2, 0, 1, 2, 3, 4, 5, 6, 7, 8, 9], [9])])
def spec_l1Num.B3 : List Nat := [0, 1, 3, 0, 8, 24, 56, 120, 248, 511, 1023]
theorem spec_l1Num.tab3 : rtab .any (opsOf Try.f152 3) = spec_l1Num.T3 := by kernel_rfl
theorem spec_l1Num.bits3 : waitsOk spec_l1Num.T3.2 spec_l1Num.B3 = true := by kernel_rfl
set_option maxHeartbeats 8000000 in
set_option maxRecDepth 100000 in
theorem spec_l1Num.calls (k : Nat) : ∀ (a0 : Int) (r : ByteArray) (w : World) (h : spec_l1Num.f k a0 = some r),
    Calls Try.prog 152 #[.int .i64 a0] w fun e w' => e = .returned (.string r) ∧ Below w.heap.size w w' := by
  induction k using Nat.strongRecOn with
  | _ k ih =>
  intro a0 r w h
  cases k with
  | zero => exact absurd h (by simp [spec_l1Num.f])
  | succ k =>
  simp only [spec_l1Num.f] at h
  have HB := Aside0.mk (Below.refl w.heap.size w)
  have H : (if a0 < 10 then (some (strOfNums (([(wrap64 (48 + a0)) % 256] : List Int)))) else ((spec_l1Num.f k (wrap64 (Int.tdiv a0 10))).bind fun t431 => ((some (([(wrap64 (48 + (Int.tmod a0 10))) % 256] : List Int) : List Int)).bind fun y432 => (if t431.size + (strOfNums y432).size ≤ 9223372036854775807 then (some (t431 ++ (strOfNums y432))) else (none))))) = some r := h
  clear h
  by_cases c2 : a0 < 10
  · rw [if_pos c2] at H
    have c2b0 : decide (a0 < 10) = true := decide_eq_true c2
    clear c2
    obtain ⟨y428, hy428⟩ : ∃ y_ : List Int, y_ = (([(wrap64 (48 + a0)) % 256] : List Int)) := ⟨_, rfl⟩
    replace H : (some (strOfNums y428)) = some r := by first | (rw [hy428]; with_reducible exact H) | (have H2_ := (Option.bind_some _ _).symm.trans H; rw [hy428]; with_reducible exact H2_) | (have H2_ := (Option.bind_some _ _).symm.trans H; with_reducible exact H2_) | with_reducible exact H | (rw [hy428]; exact H) | exact H
    have Ny428 := Aside0.mk hy428
    clear hy428
    obtain rfl := Option.some.inj H
    go_enter Try.func152, Try.ntmps152
    go_wp2_with (first | ((with_reducible refine gate_dst (N := 8) rfl ?_); refine Kd.R_lit (Kd.int .u8) _ 5 ?hg (N := 8) ?hd (xs := ([(wrap64 (48 + a0)) % 256] : List Int)) (inner := [.int .u8 ((wrap64 (48 + a0)) % 256)]) (ok := fun _ => True) (okp := fun _ => True) ?hr ?hp (fun _ hk => hk) trivial (Below.refl _ _) (Nat.le_refl _) (by simp) ?_; (case hd => rfl); (case hg => rfl); (case hr => first | (go_simp; done) | (go_simp; rfl)); (case hp => exact (Reps.one (show Kd.M (Kd.int .u8) _ _ _ ((wrap64 (48 + a0)) % 256) [.int .u8 ((wrap64 (48 + a0)) % 256)] from rfl) (Reps.none _ _))); intro v429 w3 ho4 hb hg_ hnew_; clear hg_ hnew_; (first | rw [← Ny428.out] at ho4 | (simp only [Int.reduceToNat] at ho4; rw [← Ny428.out] at ho4)); have n0_ := Aside0.mk (Kd.R_lower ho4 (below_size (bB HB))); have n1_ := bsx hb HB; clear HB; have HO430 := n0_; have HB := n1_; clear n0_ n1_; clear hb ho4; have hcv5 := own_string (P := Try.prog) Try.underlying118 Try.underlying5 Try.underlying9 (Kd.own_of_R HO430.out)))
    go_ret
    exact ⟨by first | rfl | (simp [errW_none, errW_some] <;> rfl) | (simp [*, errW_none, errW_some] <;> rfl), bB HB⟩
  rw [if_neg c2] at H
  have c2b0 : decide (a0 < 10) = false := decide_eq_false c2
  clear c2
  replace H := Option.bind_eq_some_iff.mp H
  obtain ⟨t431, A60, H⟩ := H
  try dsimp only at H
  have A6 := Aside0.mk A60
  clear A60
  obtain ⟨y432, hy432⟩ : ∃ y_ : List Int, y_ = (([(wrap64 (48 + (Int.tmod a0 10))) % 256] : List Int)) := ⟨_, rfl⟩
  replace H : (if t431.size + (strOfNums y432).size ≤ 9223372036854775807 then (some (t431 ++ (strOfNums y432))) else (none)) = some r := by first | (rw [hy432]; with_reducible exact H) | (have H2_ := (Option.bind_some _ _).symm.trans H; rw [hy432]; with_reducible exact H2_) | (have H2_ := (Option.bind_some _ _).symm.trans H; with_reducible exact H2_) | with_reducible exact H | (rw [hy432]; exact H) | exact H
  have Ny432 := Aside0.mk hy432
  clear hy432
  by_cases c7 : t431.size + (strOfNums y432).size ≤ 9223372036854775807
  rotate_left
  · rw [if_neg c7] at H
    exact absurd H (by simp)

  rw [if_pos c7] at H
  have c7b0 := eq_true c7
  have c7b1 : decide (t431.size + (strOfNums y432).size ≤ 9223372036854775807) = true := decide_eq_true c7
  try have c7b2 : (9223372036854775807 < t431.size + (strOfNums y432).size) = False := eq_false (Nat.not_lt.2 c7)
  obtain rfl := Option.some.inj H
  go_enter Try.func152, Try.ntmps152
  try go_wp2
  have n0_ := Aside0.mk (b_e HB.out)
  clear HB
  have HB := n0_
  clear n0_
  refine start_ (n := 11) (S := fun w' => True) (ds := []) (bs_ 11 0) (by kernel_rfl) rfl rfl trivial (fun hHeld => ?_); refine with_tabW spec_l1Num.tab3 spec_l1Num.bits3 (fun HT_ HW_ => ?_)
  generalize w.drew = w8 at HB hHeld ⊢
  refine pua 0 10 (bs_ 11 1) HT_ ?_
  refine pua 1 11 (bs_ 11 3) HT_ ?_
  refine pua 3 13 (bs_ 11 11) HT_ ?_
  refine pua 4 14 (bs_ 11 27) HT_ ?_
  refine pua 5 15 (bs_ 11 59) HT_ ?_
  refine pua 6 16 (bs_ 11 123) HT_ ?_
  refine join_ (σ := Value) 2 (bs_ 11 511) (fun s_ => [(12, .string t431), (17, s_), (18, .string (strOfNums y432))]) (fun s_ w' => (Kd.R (Kd.int .u8) 5 w' w.heap.size (fun _ => True) s_ y432) ∧ (Below w.heap.size w w')) ?_ ?_
  rotate_left
  · intro hCont
    refine two_ (i := 2) (j := 7) (Ni := some 12) (Nj := some 17) (bs_ 11 127) (bs_ 11 251) rfl rfl rfl rfl (two_of HT_.out (by kernel_rfl)) (by decide) (by decide) (fun K hK => ?_) (fun K hK => ?_)
    · skip
      refine goes_ Try.func152 (by kernel_rfl) rfl #[.int .i64 (wrap64 (Int.tdiv a0 10))] (by rfl) rfl rfl (by (try simp only [m_1, m_2, m_3]); first | done | rfl | (simp only [m_4, m_5]; rfl)) ?_
      with_reducible refine (ih k (by omega) (wrap64 (Int.tdiv a0 10)) t431 _ A6.out).mono ?_
      rintro e w9 ⟨rfl, hb⟩
      refine ⟨_, rfl, ?_⟩
      have n0_ := bsx hb HB
      clear HB
      have HB := n0_
      clear n0_
      (try clear hb)
      (try clear hb2)
      (try clear hk)
      (try clear hi)
      refine hK.out _ _ trivial (fun hHeld => ?_)
      clear hK K
      refine norm_ (a' := ?_) ?_ ?_
      rotate_left
      · show Act.put _ (some 12) _ = _
        simp only [Act.put, s_1, s_2, s_3, i64_w, i32_w]
        rfl
      refine one_ (i := 7) (N := some 17) (bs_ 11 255) rfl rfl (one_of HT_.out (by kernel_rfl)) (by decide) (fun K hK => ?_)
      refine Kd.R_lit_step (Kd.int .u8) _ 5 ?hg (N := 17) ?hd (xs := ([(wrap64 (48 + (Int.tmod a0 10))) % 256] : List Int)) (inner := [.int .u8 ((wrap64 (48 + (Int.tmod a0 10))) % 256)]) (ok := fun _ => True) (okp := fun _ => True) ?hr ?hp (fun _ hk => hk) trivial (Below.refl _ _) (Nat.le_refl _) (by simp) ?_; (case hd => rfl); (case hg => rfl); (case hr => first | (go_simp; done) | (go_simp; rfl)); (case hp => exact (Reps.one (show Kd.M (Kd.int .u8) _ _ _ ((wrap64 (48 + (Int.tmod a0 10))) % 256) [.int .u8 ((wrap64 (48 + (Int.tmod a0 10))) % 256)] from rfl) (Reps.none _ _)))
      intro v433 w10 ho11 hb hg_ hnew_
      clear hg_ hnew_
      (first | rw [← Ny432.out] at ho11 | (simp only [Int.reduceToNat] at ho11; rw [← Ny432.out] at ho11))
      have n0_ := Aside0.mk (Kd.R_lower ho11 (below_size (bB HB)))
      have n1_ := bsx hb HB
      clear HB
      have HO434 := n0_
      have HB := n1_
      clear n0_ n1_
      clear hb ho11
      refine hK.out _ _ trivial (fun hHeld => ?_)
      clear hK K
      refine norm_ (a' := ?_) ?_ ?_
      rotate_left
      · show Act.put _ (some 17) _ = _
        simp only [Act.put, s_1, s_2, s_3, i64_w, i32_w]
        rfl
      refine one_ (i := 8) (N := some 18) (bs_ 11 511) rfl rfl (one_of HT_.out (by kernel_rfl)) (by decide) (fun K hK => ?_)
      have hcv12 := own_string (P := Try.prog) Try.underlying118 Try.underlying5 Try.underlying9 (Kd.own_of_R HO434.out)
      refine value_ (w1 := ?_) (v := ?_) (by rfl) rfl ?_ ?_
      rotate_left 2
      · go_simp
        constructor
        · rfl
        · rfl
      clear hcv12
      refine hK.out _ _ trivial (fun hHeld => ?_)
      clear hK K
      refine norm_ (a' := ?_) ?_ ?_
      rotate_left
      · show Act.put _ (some 18) _ = _
        simp only [Act.put, s_1, s_2, s_3, i64_w, i32_w]
        rfl
      exact norm_ (by simp only [putAll, Act.put, s_1, s_2, s_3]) (hCont (v433) _ ⟨(by (with_reducible repeat (first | apply r_a | apply r_d | apply r_e)); exact HO434.out), (bB HB)⟩)
    skip
    refine Kd.R_lit_step (Kd.int .u8) _ 5 ?hg (N := 17) ?hd (xs := ([(wrap64 (48 + (Int.tmod a0 10))) % 256] : List Int)) (inner := [.int .u8 ((wrap64 (48 + (Int.tmod a0 10))) % 256)]) (ok := fun _ => True) (okp := fun _ => True) ?hr ?hp (fun _ hk => hk) trivial (Below.refl _ _) (Nat.le_refl _) (by simp) ?_; (case hd => rfl); (case hg => rfl); (case hr => first | (go_simp; done) | (go_simp; rfl)); (case hp => exact (Reps.one (show Kd.M (Kd.int .u8) _ _ _ ((wrap64 (48 + (Int.tmod a0 10))) % 256) [.int .u8 ((wrap64 (48 + (Int.tmod a0 10))) % 256)] from rfl) (Reps.none _ _)))
    intro v433 w9 ho10 hb hg_ hnew_
    clear hg_ hnew_
    (first | rw [← Ny432.out] at ho10 | (simp only [Int.reduceToNat] at ho10; rw [← Ny432.out] at ho10))
    have n0_ := Aside0.mk (Kd.R_lower ho10 (below_size (bB HB)))
    have n1_ := bsx hb HB
    clear HB
    have HO434 := n0_
    have HB := n1_
    clear n0_ n1_
    clear hb ho10
    refine hK.out _ _ trivial (fun hHeld => ?_)
    clear hK K
    refine norm_ (a' := ?_) ?_ ?_
    rotate_left
    · show Act.put _ (some 17) _ = _
      simp only [Act.put, s_1, s_2, s_3, i64_w, i32_w]
      rfl
    refine two_ (i := 2) (j := 8) (Ni := some 12) (Nj := some 18) (bs_ 11 255) (bs_ 11 507) rfl rfl rfl rfl (two_of HT_.out (by kernel_rfl)) (by decide) (by decide) (fun K hK => ?_) (fun K hK => ?_)
    rotate_left
    · skip
      have hcv11 := own_string (P := Try.prog) Try.underlying118 Try.underlying5 Try.underlying9 (Kd.own_of_R HO434.out)
      refine value_ (w1 := ?_) (v := ?_) (by rfl) rfl ?_ ?_
      rotate_left 2
      · go_simp
        constructor
        rotate_left
        · rfl
        rfl
      clear hcv11
      refine hK.out _ _ trivial (fun hHeld => ?_)
      clear hK K
      refine norm_ (a' := ?_) ?_ ?_
      rotate_left
      · show Act.put _ (some 18) _ = _
        simp only [Act.put, s_1, s_2, s_3, i64_w, i32_w]
        rfl
      refine one_ (i := 2) (N := some 12) (bs_ 11 511) rfl rfl (one_of HT_.out (by kernel_rfl)) (by decide) (fun K hK => ?_)
      refine goes_ Try.func152 (by kernel_rfl) rfl #[.int .i64 (wrap64 (Int.tdiv a0 10))] (by rfl) rfl rfl (by (try simp only [m_1, m_2, m_3]); first | done | rfl | (simp only [m_4, m_5]; rfl)) ?_
      with_reducible refine (ih k (by omega) (wrap64 (Int.tdiv a0 10)) t431 _ A6.out).mono ?_
      rintro e w12 ⟨rfl, hb⟩
      refine ⟨_, rfl, ?_⟩
      have n0_ := Aside0.mk (Kd.R_below (by (with_reducible repeat (first | apply r_a | apply r_d | apply r_e)); exact HO434.out) hb)
      have n1_ := bsx hb HB
      clear HO434
      clear HB
      have HO434 := n0_
      have HB := n1_
      clear n0_ n1_
      (try clear hb)
      (try clear hb2)
      (try clear hk)
      (try clear hi)
      refine hK.out _ _ trivial (fun hHeld => ?_)
      clear hK K
      refine norm_ (a' := ?_) ?_ ?_
      rotate_left
      · show Act.put _ (some 12) _ = _
        simp only [Act.put, s_1, s_2, s_3, i64_w, i32_w]
        rfl
      exact norm_ (by simp only [putAll, Act.put, s_1, s_2, s_3]) (hCont (v433) _ ⟨(by (with_reducible repeat (first | apply r_a | apply r_d | apply r_e)); exact HO434.out), (bB HB)⟩)
    skip
    refine goes_ Try.func152 (by kernel_rfl) rfl #[.int .i64 (wrap64 (Int.tdiv a0 10))] (by rfl) rfl rfl (by (try simp only [m_1, m_2, m_3]); first | done | rfl | (simp only [m_4, m_5]; rfl)) ?_
    with_reducible refine (ih k (by omega) (wrap64 (Int.tdiv a0 10)) t431 _ A6.out).mono ?_
    rintro e w11 ⟨rfl, hb⟩
    refine ⟨_, rfl, ?_⟩
    have n0_ := Aside0.mk (Kd.R_below (by (with_reducible repeat (first | apply r_a | apply r_d | apply r_e)); exact HO434.out) hb)
    have n1_ := bsx hb HB
    clear HO434
    clear HB
    have HO434 := n0_
    have HB := n1_
    clear n0_ n1_
    (try clear hb)
    (try clear hb2)
    (try clear hk)
    (try clear hi)
    refine hK.out _ _ trivial (fun hHeld => ?_)
    clear hK K
    refine norm_ (a' := ?_) ?_ ?_
    rotate_left
    · show Act.put _ (some 12) _ = _
      simp only [Act.put, s_1, s_2, s_3, i64_w, i32_w]
      rfl
    refine one_ (i := 8) (N := some 18) (bs_ 11 511) rfl rfl (one_of HT_.out (by kernel_rfl)) (by decide) (fun K hK => ?_)
    have hcv12 := own_string (P := Try.prog) Try.underlying118 Try.underlying5 Try.underlying9 (Kd.own_of_R HO434.out)
    refine value_ (w1 := ?_) (v := ?_) (by rfl) rfl ?_ ?_
    rotate_left 2
    · go_simp
      constructor
      rotate_left
      · rfl
      rfl
    clear hcv12
    refine hK.out _ _ trivial (fun hHeld => ?_)
    clear hK K
    refine norm_ (a' := ?_) ?_ ?_
    rotate_left
    · show Act.put _ (some 18) _ = _
      simp only [Act.put, s_1, s_2, s_3, i64_w, i32_w]
      rfl
    exact norm_ (by simp only [putAll, Act.put, s_1, s_2, s_3]) (hCont (v433) _ ⟨(by (with_reducible repeat (first | apply r_a | apply r_d | apply r_e)); exact HO434.out), (bB HB)⟩)
  rintro v433 w13 ⟨h0_, h1_⟩
  have n0_ : Aside0 (Kd.R (Kd.int .u8) 5 w13 w.heap.size (fun _ => True) v433 y432) := ⟨h0_⟩
  have n1_ : Aside0 (Below w.heap.size w w13) := ⟨h1_⟩
  clear HB
  clear h0_ h1_
  have HO434 := n0_
  have HB := n1_
  clear n0_ n1_
  have hHeld := trivial
  refine norm_ (a' := ?_) ?_ ?_
  rotate_left
  · simp only [putAll, Act.put, s_1, s_2, s_3]
    rfl
  refine pua 9 19 (bs_ 11 1023) HT_ ?_
  refine pua 10 2 (bs_ 11 2047) HT_ ?_
  refine done_ (done_of HT_.out (by kernel_rfl)) ?_
  try go_wp2
  go_ret
  exact ⟨by first | rfl | (simp [errW_none, errW_some] <;> rfl) | (simp [*, errW_none, errW_some] <;> rfl), bB HB⟩
/-! ### spec_whText: function 116 -/
def spec_whText.l0 : Nat → ByteArray → List Int → Int → Int → Option (ByteArray)
  | 0, _, _, _, _ => none
  | k + 1, x3, x6, x7, x8 => if x8 < x7 then (if 0 ≤ x8 then (if x8 < (x6.length : Int) then ((spec_l1Num.f k (rd x6 x8)).bind fun t436 => (if x3.size + t436.size ≤ 9223372036854775807 then (spec_whText.l0 k (x3 ++ t436) x6 x7 (wrap64 (x8 + 1))) else (none))) else (none)) else (none)) else (some x3)
def spec_whText.f (k : Nat) (l0 : List Int) : Option (ByteArray) := spec_whText.l0 k (⟨#[]⟩ : ByteArray) l0 (l0.length : Int) 0
theorem spec_whText.mono_l : ∀ k, (∀ y0 y1 y2 y3, LeO (spec_whText.l0 k y0 y1 y2 y3) (spec_whText.l0 (k + 1) y0 y1 y2 y3))
  | 0 => fun _ _ _ _ r h => by simp [spec_whText.l0] at h
  | k + 1 => by
    have ih0 := spec_whText.mono_l k
    · intro y0 y1 y2 y3
      unfold spec_whText.l0
      repeat' first
      | (with_reducible exact ih0 _ _ _ _)
      | (with_reducible exact spec_l1Num.mono _ _)
      | (with_reducible exact LeO.refl _)
      | (with_reducible exact LeO.none _)
      | (with_reducible refine LeO.ite ?_ ?_)
      | (with_reducible refine LeO.bind ?_ (fun _ => ?_))
      | exact ih0 _ _ _ _
      | exact spec_l1Num.mono _ _
      | exact LeO.none _
      | refine LeO.ite ?_ ?_
      | refine LeO.bind ?_ (fun _ => ?_)
theorem spec_whText.mono : ∀ a0 k, LeO (spec_whText.f k a0) (spec_whText.f (k + 1) a0) := by
  intro a0 k
  have ih0 := spec_whText.mono_l k
  unfold spec_whText.f
  repeat' first
      | (with_reducible exact ih0 _ _ _ _)
      | (with_reducible exact spec_l1Num.mono _ _)
      | (with_reducible exact LeO.refl _)
      | (with_reducible exact LeO.none _)
      | (with_reducible refine LeO.ite ?_ ?_)
      | (with_reducible refine LeO.bind ?_ (fun _ => ?_))
      | exact ih0 _ _ _ _
      | exact spec_l1Num.mono _ _
      | exact LeO.none _
      | refine LeO.ite ?_ ?_
      | refine LeO.bind ?_ (fun _ => ?_)
set_option maxHeartbeats 8000000 in
set_option maxRecDepth 100000 in
theorem spec_whText.calls (k : Nat) (A0 : Option Addr) (c0 : Nat) (l0 : List Int) (r : ByteArray) (w : World) (hr0 : Kd.C (Kd.int .i64) w A0 l0.length l0) (hc0 : l0.length ≤ c0) (h : spec_whText.f k l0 = some r) :
    Calls Try.prog 116 #[.slice A0 l0.length c0] w fun e w' => e = .returned (.string r) ∧ Below w.heap.size w w' := by
  have HR0 := Aside0.mk hr0
  have HC0 := Aside0.mk hc0
  clear hr0 hc0
  have HB := Aside0.mk (Below.refl w.heap.size w)
  have H : (spec_whText.l0 k (⟨#[]⟩ : ByteArray) l0 (l0.length : Int) 0) = some r := h
  clear h
  have H' := Aside0.mk H
  clear H
  go_enter Try.func116, Try.ntmps116
  go_wp2
  go_loopg [3, 8] k (fun kq v3 v8 w' => ∃ (x3_1 : ByteArray) (x8_1 : Int), v3 = .string x3_1 ∧ v8 = .int .i64 x8_1 ∧ Aside0 (spec_whText.l0 kq x3_1 l0 (l0.length : Int) x8_1 = some r) ∧ Aside0 (kq ≤ k) ∧ Aside0 (Below w.heap.size w w'))
  case atStart => exact ⟨((⟨#[]⟩ : ByteArray)), (0), (by first | rfl | (simp; done) | (simp [*]; done)), (by first | rfl | (simp; done) | (simp [*]; done)), H', ⟨Nat.le_refl _⟩, ⟨bB HB⟩⟩
  clear H'
  obtain ⟨x3_1, x8_1, rfl, rfl, HA, HK1, HB⟩ := hrel
  rcases gk with _ | k1
  · exact absurd HA.out (by simp [spec_whText.l0])
  have H := HA.out
  clear HA
  simp only [spec_whText.l0] at H
  by_cases c2 : x8_1 < (l0.length : Int)
  rotate_left
  · rw [if_neg c2] at H
    have c2b0 : decide (x8_1 < (l0.length : Int)) = false := decide_eq_false c2
    clear c2
    obtain rfl := Option.some.inj H
    go_wp2
    go_ret
    exact ⟨by first | rfl | (simp [errW_none, errW_some] <;> rfl) | (simp [*, errW_none, errW_some] <;> rfl), bB HB⟩

  rw [if_pos c2] at H
  have c2b0 : decide (x8_1 < (l0.length : Int)) = true := decide_eq_true c2
  clear c2
  by_cases c3 : 0 ≤ x8_1
  rotate_left
  · rw [if_neg c3] at H
    exact absurd H (by simp)
  rw [if_pos c3] at H
  have c3b0 : decide (0 ≤ x8_1) = true := decide_eq_true c3
  clear c3
  by_cases c4 : x8_1 < (l0.length : Int)
  rotate_left
  · rw [if_neg c4] at H
    exact absurd H (by simp)
  rw [if_pos c4] at H
  have c4b0 : decide (x8_1 < (l0.length : Int)) = true := decide_eq_true c4
  clear c4
  replace H := Option.bind_eq_some_iff.mp H
  obtain ⟨t436, A50, H⟩ := H
  try dsimp only at H
  have A5 := Aside0.mk A50
  clear A50
  by_cases c6 : x3_1.size + t436.size ≤ 9223372036854775807
  rotate_left
  · rw [if_neg c6] at H
    exact absurd H (by simp)
  rw [if_pos c6] at H
  have c6b0 := eq_true c6
  have c6b1 : decide (x3_1.size + t436.size ≤ 9223372036854775807) = true := decide_eq_true c6
  try have c6b2 : (9223372036854775807 < x3_1.size + t436.size) = False := eq_false (Nat.not_lt.2 c6)
  have H' := Aside0.mk H
  clear H
  have p435 : 0 ≤ (x8_1 : Int) := of_decide_eq_true (by first | (with_reducible assumption) | assumption)
  have q435 : x8_1 < (l0.length : Int) := of_decide_eq_true (by first | (with_reducible assumption) | assumption)
  obtain ⟨ad435, e435, hx435_0⟩ := Kd.at_int HR0.out x8_1 p435 q435
  cases e435
  replace hx435_0 := (HB.out.cell (World.block_lt_of_cell? w _ hx435_0)).trans hx435_0
  replace p435 := eq_true p435
  replace q435 := eq_true q435
  go_wp2_with (first | ((with_reducible refine gate_callee (f := 152) rfl ?_); refine goesL_ (some 14) rfl rfl Try.func152 (by kernel_rfl) rfl #[.int .i64 (rd l0 x8_1)] rfl (by (try simp only [m_1, m_2, m_3]); first | done | rfl | (simp only [m_4, m_5]; rfl)) ?_; (with_reducible refine (spec_l1Num.calls k1 (rd l0 x8_1) t436 _ A5.out).mono ?_); rintro e w7 ⟨rfl, hb⟩; refine ⟨_, rfl, ?_⟩; replace HB := bsx hb HB; skip; (try clear hb); (try clear hb2); (try clear hk); (try clear hi)))
  go_roundg k1
  case measure => have := HK1.out; omega
  case rel => exact ⟨(x3_1 ++ t436), (wrap64 (x8_1 + 1)), (by first | rfl | (simp; done) | (simp [*]; done)), (by first | rfl | (simp; done) | (simp [*]; done)), H', ⟨by have := HK1.out; omega⟩, ⟨bB HB⟩⟩
/-! ### spec_orFew: function 79 -/
def spec_orFew.f (k : Nat) (a0_0 : Int) (a0_1 : Int) : Option (Bool) := (spec_whGood.f a0_0 a0_1).bind fun t806 => (if t806 = true then ((spec_whCount.f k a0_0 a0_1).bind fun t807 => (some (decide (t807 ≤ 9)))) else (some false))
theorem spec_orFew.mono : ∀ a0 a1 k, LeO (spec_orFew.f k a0 a1) (spec_orFew.f (k + 1) a0 a1) := by
  intro a0 a1 k
  unfold spec_orFew.f
  repeat' first
      | (with_reducible exact spec_whCount.mono _ _ _)
      | (with_reducible exact LeO.refl _)
      | (with_reducible exact LeO.none _)
      | (with_reducible refine LeO.ite ?_ ?_)
      | (with_reducible refine LeO.bind ?_ (fun _ => ?_))
      | exact spec_whCount.mono _ _ _
      | exact LeO.none _
      | refine LeO.ite ?_ ?_
      | refine LeO.bind ?_ (fun _ => ?_)
set_option maxHeartbeats 8000000 in
set_option maxRecDepth 100000 in
theorem spec_orFew.calls (k : Nat) (a0_0 : Int) (a0_1 : Int) (r : Bool) (w : World) (h : spec_orFew.f k a0_0 a0_1 = some r) :
    Calls Try.prog 79 #[.agg #[.int .i64 a0_0, .int .i64 a0_1]] w fun e w' => e = .returned (.bool r) ∧ Below w.heap.size w w' := by
  have hu28 := Try.underlying28
  have HB := Aside0.mk (Below.refl w.heap.size w)
  have H : ((spec_whGood.f a0_0 a0_1).bind fun t806 => (if t806 = true then ((spec_whCount.f k a0_0 a0_1).bind fun t807 => (some (decide (t807 ≤ 9)))) else (some false))) = some r := h
  clear h
  replace H := Option.bind_eq_some_iff.mp H
  obtain ⟨t806, A20, H⟩ := H
  try dsimp only at H
  have A2 := Aside0.mk A20
  clear A20
  by_cases c3 : t806 = true
  rotate_left
  · replace c3 := Bool.eq_false_iff.mpr c3
    subst c3
    rw [if_neg (show ¬ (false = true) by decide)] at H
    obtain rfl := Option.some.inj H
    go_enter Try.func79, Try.ntmps79
    go_wp2_with (first | ((with_reducible refine gate_dst (N := 1) rfl ?_); refine box_event ?hg (N := 1) ?hd (cs := #[.int .i64 a0_0, .int .i64 a0_1]) (t := 28) ?hr ?_; (case hd => rfl); (case hg => rfl); (case hr => first | (go_simp; done) | (go_simp; rfl)); intro gb805 hg w10 hbox hb; have n0_ := bsx hb HB; have n1_ := Aside0.mk (hbox); have n2_ := gwx hg HB; have n3_ := n2_; clear HB; have HB := n0_; have BK805 := n1_; have GW805 := n2_; have GE805 := n3_; clear n0_ n1_ n2_ n3_; clear hb hbox hg; have hcz11_0 := cz0 BK805; have hcz11_1 := cz1 BK805; have hfz11_0 := blk_frozen BK805.out 0; have hfz11_1 := blk_frozen BK805.out 1) | ((with_reducible refine gate_callee (f := 49) rfl ?_); refine goesL_ (some 4) rfl rfl Try.func49 (by kernel_rfl) rfl #[.agg #[.int .i64 a0_0, .int .i64 a0_1]] rfl (by (try simp only [m_1, m_2, m_3]); first | done | rfl | (simp only [m_4, m_5]; rfl)) ?_; (with_reducible refine (spec_whGood.calls a0_0 a0_1 false _ A2.out).mono ?_); rintro e w12 ⟨rfl, hb⟩; refine ⟨_, rfl, ?_⟩; replace BK805 := bbx hb BK805; replace HB := bsx hb HB; skip; (try clear hb); (try clear hb2); (try clear hk); (try clear hi)))
    go_ret
    exact ⟨by first | rfl | (simp [errW_none, errW_some] <;> rfl) | (simp [*, errW_none, errW_some] <;> rfl), bB HB⟩

  subst c3
  rw [if_pos rfl] at H
  replace H := Option.bind_eq_some_iff.mp H
  obtain ⟨t807, A40, H⟩ := H
  try dsimp only at H
  have A4 := Aside0.mk A40
  clear A40
  obtain rfl := Option.some.inj H
  go_enter Try.func79, Try.ntmps79
  go_wp2_with (first | ((with_reducible refine gate_dst (N := 1) rfl ?_); refine box_event ?hg (N := 1) ?hd (cs := #[.int .i64 a0_0, .int .i64 a0_1]) (t := 28) ?hr ?_; (case hd => rfl); (case hg => rfl); (case hr => first | (go_simp; done) | (go_simp; rfl)); intro gb805 hg w5 hbox hb; have n0_ := bsx hb HB; have n1_ := Aside0.mk (hbox); have n2_ := gwx hg HB; have n3_ := n2_; clear HB; have HB := n0_; have BK805 := n1_; have GW805 := n2_; have GE805 := n3_; clear n0_ n1_ n2_ n3_; clear hb hbox hg; have hcz6_0 := cz0 BK805; have hcz6_1 := cz1 BK805; have hfz6_0 := blk_frozen BK805.out 0; have hfz6_1 := blk_frozen BK805.out 1) | ((with_reducible refine gate_callee (f := 49) rfl ?_); refine goesL_ (some 4) rfl rfl Try.func49 (by kernel_rfl) rfl #[.agg #[.int .i64 a0_0, .int .i64 a0_1]] rfl (by (try simp only [m_1, m_2, m_3]); first | done | rfl | (simp only [m_4, m_5]; rfl)) ?_; (with_reducible refine (spec_whGood.calls a0_0 a0_1 true _ A2.out).mono ?_); rintro e w7 ⟨rfl, hb⟩; refine ⟨_, rfl, ?_⟩; replace BK805 := bbx hb BK805; replace HB := bsx hb HB; skip; (try clear hb); (try clear hb2); (try clear hk); (try clear hi); have hcz8_0 := cz0 BK805; have hcz8_1 := cz1 BK805; have hfz8_0 := blk_frozen BK805.out 0; have hfz8_1 := blk_frozen BK805.out 1) | (go_at_call 94; (with_reducible refine (spec_whCount.calls k a0_0 a0_1 t807 _ A4.out).mono ?_); rintro e w9 ⟨rfl, hb⟩; replace BK805 := bbx hb BK805; replace HB := bsx hb HB; skip; (try clear hb); (try clear hb2); (try clear hk); (try clear hi)))
  go_ret
  exact ⟨by first | rfl | (simp [errW_none, errW_some] <;> rfl) | (simp [*, errW_none, errW_some] <;> rfl), bB HB⟩
/-! ### spec_whAsked: function 137 -/
def spec_whAsked.f (k : Nat) (a0_0 : Int) (a0_1 : Int) (a1 : ByteArray) : Option (Bool) := (spec_whGood.f a0_0 a0_1).bind fun t809 => (if t809 = true then ((spec_whCode.f k a0_0 a0_1 a1).bind fun t810 => (some t810)) else (some false))
theorem spec_whAsked.mono : ∀ a0 a1 a2 k, LeO (spec_whAsked.f k a0 a1 a2) (spec_whAsked.f (k + 1) a0 a1 a2) := by
  intro a0 a1 a2 k
  unfold spec_whAsked.f
  repeat' first
      | (with_reducible exact spec_whCode.mono _ _ _ _)
      | (with_reducible exact LeO.refl _)
      | (with_reducible exact LeO.none _)
      | (with_reducible refine LeO.ite ?_ ?_)
      | (with_reducible refine LeO.bind ?_ (fun _ => ?_))
      | exact spec_whCode.mono _ _ _ _
      | exact LeO.none _
      | refine LeO.ite ?_ ?_
      | refine LeO.bind ?_ (fun _ => ?_)
set_option maxHeartbeats 8000000 in
set_option maxRecDepth 100000 in
theorem spec_whAsked.calls (k : Nat) (a0_0 : Int) (a0_1 : Int) (a1 : ByteArray) (r : Bool) (w : World) (h : spec_whAsked.f k a0_0 a0_1 a1 = some r) :
    Calls Try.prog 137 #[.agg #[.int .i64 a0_0, .int .i64 a0_1], .string a1] w fun e w' => e = .returned (.bool r) ∧ Below w.heap.size w w' := by
  have hu28 := Try.underlying28
  have HB := Aside0.mk (Below.refl w.heap.size w)
  have H : ((spec_whGood.f a0_0 a0_1).bind fun t809 => (if t809 = true then ((spec_whCode.f k a0_0 a0_1 a1).bind fun t810 => (some t810)) else (some false))) = some r := h
  clear h
  replace H := Option.bind_eq_some_iff.mp H
  obtain ⟨t809, A30, H⟩ := H
  try dsimp only at H
  have A3 := Aside0.mk A30
  clear A30
  by_cases c4 : t809 = true
  rotate_left
  · replace c4 := Bool.eq_false_iff.mpr c4
    subst c4
    rw [if_neg (show ¬ (false = true) by decide)] at H
    obtain rfl := Option.some.inj H
    go_enter Try.func137, Try.ntmps137
    go_wp2_with (first | ((with_reducible refine gate_dst (N := 2) rfl ?_); refine box_event ?hg (N := 2) ?hd (cs := #[.int .i64 a0_0, .int .i64 a0_1]) (t := 28) ?hr ?_; (case hd => rfl); (case hg => rfl); (case hr => first | (go_simp; done) | (go_simp; rfl)); intro gb808 hg w11 hbox hb; have n0_ := bsx hb HB; have n1_ := Aside0.mk (hbox); have n2_ := gwx hg HB; have n3_ := n2_; clear HB; have HB := n0_; have BK808 := n1_; have GW808 := n2_; have GE808 := n3_; clear n0_ n1_ n2_ n3_; clear hb hbox hg; have hcz12_0 := cz0 BK808; have hcz12_1 := cz1 BK808; have hfz12_0 := blk_frozen BK808.out 0; have hfz12_1 := blk_frozen BK808.out 1) | ((with_reducible refine gate_callee (f := 49) rfl ?_); refine goesL_ (some 6) rfl rfl Try.func49 (by kernel_rfl) rfl #[.agg #[.int .i64 a0_0, .int .i64 a0_1]] rfl (by (try simp only [m_1, m_2, m_3]); first | done | rfl | (simp only [m_4, m_5]; rfl)) ?_; (with_reducible refine (spec_whGood.calls a0_0 a0_1 false _ A3.out).mono ?_); rintro e w13 ⟨rfl, hb⟩; refine ⟨_, rfl, ?_⟩; replace BK808 := bbx hb BK808; replace HB := bsx hb HB; skip; (try clear hb); (try clear hb2); (try clear hk); (try clear hi)))
    go_ret
    exact ⟨by first | rfl | (simp [errW_none, errW_some] <;> rfl) | (simp [*, errW_none, errW_some] <;> rfl), bB HB⟩

  subst c4
  rw [if_pos rfl] at H
  replace H := Option.bind_eq_some_iff.mp H
  obtain ⟨t810, A50, H⟩ := H
  try dsimp only at H
  have A5 := Aside0.mk A50
  clear A50
  obtain rfl := Option.some.inj H
  go_enter Try.func137, Try.ntmps137
  go_wp2_with (first | ((with_reducible refine gate_dst (N := 2) rfl ?_); refine box_event ?hg (N := 2) ?hd (cs := #[.int .i64 a0_0, .int .i64 a0_1]) (t := 28) ?hr ?_; (case hd => rfl); (case hg => rfl); (case hr => first | (go_simp; done) | (go_simp; rfl)); intro gb808 hg w6 hbox hb; have n0_ := bsx hb HB; have n1_ := Aside0.mk (hbox); have n2_ := gwx hg HB; have n3_ := n2_; clear HB; have HB := n0_; have BK808 := n1_; have GW808 := n2_; have GE808 := n3_; clear n0_ n1_ n2_ n3_; clear hb hbox hg; have hcz7_0 := cz0 BK808; have hcz7_1 := cz1 BK808; have hfz7_0 := blk_frozen BK808.out 0; have hfz7_1 := blk_frozen BK808.out 1) | ((with_reducible refine gate_callee (f := 49) rfl ?_); refine goesL_ (some 6) rfl rfl Try.func49 (by kernel_rfl) rfl #[.agg #[.int .i64 a0_0, .int .i64 a0_1]] rfl (by (try simp only [m_1, m_2, m_3]); first | done | rfl | (simp only [m_4, m_5]; rfl)) ?_; (with_reducible refine (spec_whGood.calls a0_0 a0_1 true _ A3.out).mono ?_); rintro e w8 ⟨rfl, hb⟩; refine ⟨_, rfl, ?_⟩; replace BK808 := bbx hb BK808; replace HB := bsx hb HB; skip; (try clear hb); (try clear hb2); (try clear hk); (try clear hi); have hcz9_0 := cz0 BK808; have hcz9_1 := cz1 BK808; have hfz9_0 := blk_frozen BK808.out 0; have hfz9_1 := blk_frozen BK808.out 1) | (go_at_call 103; (with_reducible refine (spec_whCode.calls k a0_0 a0_1 a1 t810 _ A5.out).mono ?_); rintro e w10 ⟨rfl, hb⟩; replace BK808 := bbx hb BK808; replace HB := bsx hb HB; skip; (try clear hb); (try clear hb2); (try clear hk); (try clear hi)))
  go_ret
  exact ⟨by first | rfl | (simp [errW_none, errW_some] <;> rfl) | (simp [*, errW_none, errW_some] <;> rfl), bB HB⟩
/-! ### spec_whMake: function 138 -/
def spec_whMake.f (k : Nat) (a0_0 : Int) (a0_1 : Int) (a1 : ByteArray) (a2_0 : Int) (a2_1 : Int) : Option (ByteArray) := (spec_whDigits.f k a1).bind fun t813 => (if 0 ≤ a2_0 then (if a2_0 < (t813.length : Int) then ((spec_l1Mod.f (wrap64 ((rd t813 a2_0) + a2_1)) a0_1).bind fun t817 => ((spec_whText.f k (t813.set (a2_0 : Int).toNat t817)).bind fun t819 => (some t819))) else (none)) else (none))
theorem spec_whMake.mono : ∀ a0 a1 a2 a3 a4 k, LeO (spec_whMake.f k a0 a1 a2 a3 a4) (spec_whMake.f (k + 1) a0 a1 a2 a3 a4) := by
  intro a0 a1 a2 a3 a4 k
  unfold spec_whMake.f
  repeat' first
      | (with_reducible exact spec_whDigits.mono _ _)
      | (with_reducible exact spec_whText.mono _ _)
      | (with_reducible exact LeO.refl _)
      | (with_reducible exact LeO.none _)
      | (with_reducible refine LeO.ite ?_ ?_)
      | (with_reducible refine LeO.bind ?_ (fun _ => ?_))
      | exact spec_whDigits.mono _ _
      | exact spec_whText.mono _ _
      | exact LeO.none _
      | refine LeO.ite ?_ ?_
      | refine LeO.bind ?_ (fun _ => ?_)
def spec_whMake.T2 : Bool × List (List Nat × List Nat) := (true, [([], []), ([], []), ([1], [1]), ([], []), ([], []), ([4], [4]), ([3, 5], [3, 5]), ([6], [6]), ([], []), ([8], [8]), ([7, 9], [7, 9]), ([], []), ([11], [11]), ([10, 12], [10, 12]), ([0, 2, 0, 1, 2, 3, 4, 5, 6, 7, 8, 9, 10, 11, 12, 13], [0, 2]), ([14, 13, 13, 0, 1, 2, 3, 4, 5, 6, 7, 8, 9, 10, 11, 12, 13], [13, 14])])
def spec_whMake.B2 : List Nat := [0, 0, 2, 0, 0, 16, 56, 120, 0, 256, 1016, 0, 2048, 8184, 16383, 32767]
theorem spec_whMake.tab2 : rtab .any (opsOf Try.f138 2) = spec_whMake.T2 := by kernel_rfl
theorem spec_whMake.bits2 : waitsOk spec_whMake.T2.2 spec_whMake.B2 = true := by kernel_rfl
set_option maxHeartbeats 8000000 in
set_option maxRecDepth 100000 in
theorem spec_whMake.calls (k : Nat) (a0_0 : Int) (a0_1 : Int) (a1 : ByteArray) (a2_0 : Int) (a2_1 : Int) (r : ByteArray) (w : World) (h : spec_whMake.f k a0_0 a0_1 a1 a2_0 a2_1 = some r) :
    Calls Try.prog 138 #[.agg #[.int .i64 a0_0, .int .i64 a0_1], .string a1, .agg #[.int .i64 a2_0, .int .i64 a2_1]] w fun e w' => e = .returned (.string r) ∧ Below w.heap.size w w' := by
  have hu28 := Try.underlying28
  have hu66 := Try.underlying66
  have HB := Aside0.mk (Below.refl w.heap.size w)
  have H : ((spec_whDigits.f k a1).bind fun t813 => (if 0 ≤ a2_0 then (if a2_0 < (t813.length : Int) then ((spec_l1Mod.f (wrap64 ((rd t813 a2_0) + a2_1)) a0_1).bind fun t817 => ((spec_whText.f k (t813.set (a2_0 : Int).toNat t817)).bind fun t819 => (some t819))) else (none)) else (none))) = some r := h
  clear h
  replace H := Option.bind_eq_some_iff.mp H
  obtain ⟨t813, A40, H⟩ := H
  try dsimp only at H
  have A4 := Aside0.mk A40
  clear A40
  by_cases c5 : 0 ≤ a2_0
  rotate_left
  · rw [if_neg c5] at H
    exact absurd H (by simp)

  rw [if_pos c5] at H
  have c5b0 : decide (0 ≤ a2_0) = true := decide_eq_true c5
  clear c5
  by_cases c6 : a2_0 < (t813.length : Int)
  rotate_left
  · rw [if_neg c6] at H
    exact absurd H (by simp)
  rw [if_pos c6] at H
  have c6b0 : decide (a2_0 < (t813.length : Int)) = true := decide_eq_true c6
  clear c6
  replace H := Option.bind_eq_some_iff.mp H
  obtain ⟨t817, A70, H⟩ := H
  try dsimp only at H
  have A7 := Aside0.mk A70
  clear A70
  obtain ⟨y818, hy818⟩ : ∃ y_ : List Int, y_ = (t813.set (a2_0 : Int).toNat t817) := ⟨_, rfl⟩
  replace H : ((spec_whText.f k y818).bind fun t819 => (some t819)) = some r := by first | (rw [hy818]; with_reducible exact H) | (have H2_ := (Option.bind_some _ _).symm.trans H; rw [hy818]; with_reducible exact H2_) | (have H2_ := (Option.bind_some _ _).symm.trans H; with_reducible exact H2_) | with_reducible exact H | (rw [hy818]; exact H) | exact H
  have Ny818 := Aside0.mk hy818
  clear hy818
  replace H := Option.bind_eq_some_iff.mp H
  obtain ⟨t819, A90, H⟩ := H
  try dsimp only at H
  have A9 := Aside0.mk A90
  clear A90
  obtain rfl := Option.some.inj H
  go_enter Try.func138, Try.ntmps138
  try go_wp2_with (first | ((with_reducible refine gate_dst (N := 3) rfl ?_); refine box_event ?hg (N := 3) ?hd (cs := #[.int .i64 a0_0, .int .i64 a0_1]) (t := 28) ?hr ?_; (case hd => rfl); (case hg => rfl); (case hr => first | (go_simp; done) | (go_simp; rfl)); intro gb811 hg w10 hbox hb; have n0_ := bsx hb HB; have n1_ := Aside0.mk (hbox); have n2_ := gwx hg HB; have n3_ := n2_; clear HB; have HB := n0_; have BK811 := n1_; have GW811 := n2_; have GE811 := n3_; clear n0_ n1_ n2_ n3_; clear hb hbox hg) | ((with_reducible refine gate_dst (N := 5) rfl ?_); refine box_event ?hg (N := 5) ?hd (cs := #[.int .i64 a2_0, .int .i64 a2_1]) (t := 66) ?hr ?_; (case hd => rfl); (case hg => rfl); (case hr => first | (go_simp; done) | (go_simp; rfl)); intro gb812 hg w11 hbox hb; have n0_ := bbx hb BK811; have n1_ := bsx hb HB; have n2_ := Aside0.mk (hbox); have n3_ := gwx hg HB; have n4_ := gwx hg HB; have n5_ := nlx hg BK811; have n6_ := ngx hg BK811; clear BK811; clear HB; have BK811 := n0_; have HB := n1_; have BK812 := n2_; have GW812 := n3_; have GE812 := n4_; have NB811_812 := n5_; have NB812_811 := n6_; clear n0_ n1_ n2_ n3_ n4_ n5_ n6_; clear hb hbox hg) | ((with_reducible refine gate_callee (f := 108) rfl ?_); refine goesL_ (some 9) rfl rfl Try.func108 (by kernel_rfl) rfl #[.string a1] rfl (by (try simp only [m_1, m_2, m_3]); first | done | rfl | (simp only [m_4, m_5]; rfl)) ?_; (with_reducible refine (spec_whDigits.calls k a1 t813 _ A4.out).mono ?_); rintro e w12 ⟨v814, rfl, ho0, hb⟩; refine ⟨_, rfl, ?_⟩; have n0_ := Aside0.mk (Kd.R_lower ho0 (below_size (bB HB))); replace BK811 := bbx hb BK811; replace BK812 := bbx hb BK812; have n3_ := bsx hb HB; clear HB; have HO815 := n0_; have HB := n3_; clear n0_ n3_; (try clear hb); (try clear hb2); (try clear hk); (try clear hi); (try clear ho0)))
  have n0_ := Aside0.mk (r_e HO815.out)
  have n1_ := Aside0.mk (g_e BK811.out)
  have n2_ := Aside0.mk (g_e BK812.out)
  have n3_ := Aside0.mk (b_e HB.out)
  clear HO815
  clear BK811
  clear BK812
  clear HB
  have HO815 := n0_
  have BK811 := n1_
  have BK812 := n2_
  have HB := n3_
  clear n0_ n1_ n2_ n3_
  obtain ⟨Ao14, co14, eo14⟩ := Kd.R_slice HO815.out
  (first | subst eo14 | (injection eo14 with f1_ f2_ f3_; have f4_ := f1_.symm; have f5_ := f3_.symm; clear f1_ f2_ f3_; subst f4_; subst f5_))
  have p816 : 0 ≤ (a2_0 : Int) := of_decide_eq_true (by first | (with_reducible assumption) | assumption)
  have q816 : a2_0 < (t813.length : Int) := of_decide_eq_true (by first | (with_reducible assumption) | assumption)
  obtain ⟨ad816, e816, hx816_0⟩ := Kd.at_int (Kd.R_reads' HO815.out).2.2 a2_0 p816 q816
  cases e816
  replace p816 := eq_true p816
  replace q816 := eq_true q816
  refine start_ (n := 16) (S := fun w' => w'.cell? ⟨gb812, 0, none⟩ = some (.int .i64 a2_0) ∧ w'.cell? ⟨gb812, 1, none⟩ = some (.int .i64 a2_1) ∧ w'.cell? ⟨gb811, 0, none⟩ = some (.int .i64 a0_0) ∧ w'.cell? ⟨gb811, 1, none⟩ = some (.int .i64 a0_1) ∧ w'.cell? (ad816.add (a2_0).toNat) = some (.int .i64 (rd t813 a2_0))) (ds := [15]) (bs_ 16 0) (by kernel_rfl) rfl rfl ⟨(blk_cell BK812.out 0).trans rfl, (blk_cell BK812.out 1).trans rfl, (blk_cell BK811.out 0).trans rfl, (blk_cell BK811.out 1).trans rfl, hx816_0⟩ (fun hHeld => ?_); refine with_tabW spec_whMake.tab2 spec_whMake.bits2 (fun HT_ HW_ => ?_)
  generalize w12.drew = w13 at HO815 BK811 BK812 HB hx816_0 hHeld ⊢
  refine pua 0 10 (bs_ 16 1) HT_ ?_
  refine pua 1 11 (bs_ 16 3) HT_ ?_
  refine pua 3 13 (bs_ 16 11) HT_ ?_
  refine pua 4 14 (bs_ 16 27) HT_ ?_
  refine pua 8 18 (bs_ 16 283) HT_ ?_
  refine pua 11 21 (bs_ 16 2331) HT_ ?_
  refine tk_ 2 12 (bs_ 16 2335) rfl rfl HT_ HW_ (by kernel_rfl) (fun _ _ _ h => h) (by rfl) hHeld (by rintro w' ⟨s0, s1, s2, s3, s4⟩; go_simp; with_reducible rfl) (by simp only [Act.put, s_1, s_2, s_3, i64_w, i32_w]; rfl) ?_
  refine tk_ 5 15 (bs_ 16 2367) rfl rfl HT_ HW_ (by kernel_rfl) (fun _ _ _ h => h) (by rfl) hHeld (by rintro w' ⟨s0, s1, s2, s3, s4⟩; go_simp; with_reducible rfl) (by simp only [Act.put, s_1, s_2, s_3, i64_w, i32_w]; rfl) ?_
  refine pua 6 16 (bs_ 16 2431) HT_ ?_
  refine tk_ 7 17 (bs_ 16 2559) rfl rfl HT_ HW_ (by kernel_rfl) (fun _ _ _ h => h) (by rfl) hHeld (by rintro w' ⟨s0, s1, s2, s3, s4⟩; go_simp; with_reducible rfl) (by simp only [Act.put, s_1, s_2, s_3, i64_w, i32_w]; rfl) ?_
  refine tk_ 9 19 (bs_ 16 3071) rfl rfl HT_ HW_ (by kernel_rfl) (fun _ _ _ h => h) (by rfl) hHeld (by rintro w' ⟨s0, s1, s2, s3, s4⟩; go_simp; with_reducible rfl) (by simp only [Act.put, s_1, s_2, s_3, i64_w, i32_w]; rfl) ?_
  refine pua 10 20 (bs_ 16 4095) HT_ ?_
  refine tk_ 12 22 (bs_ 16 8191) rfl rfl HT_ HW_ (by kernel_rfl) (fun _ _ _ h => h) (by rfl) hHeld (by rintro w' ⟨s0, s1, s2, s3, s4⟩; go_simp; with_reducible rfl) (by simp only [Act.put, s_1, s_2, s_3, i64_w, i32_w]; rfl) ?_
  refine one_ (i := 13) (N := some 23) (bs_ 16 16383) rfl rfl (one_of HT_.out (by kernel_rfl)) (by decide) (fun K hK => ?_)
  refine goes_ Try.func112 (by kernel_rfl) rfl #[.int .i64 (wrap64 ((rd t813 a2_0) + a2_1)), .int .i64 a0_1] (by rfl) rfl rfl (by (try simp only [m_1, m_2, m_3]); first | done | rfl | (simp only [m_4, m_5]; rfl)) ?_
  with_reducible refine (spec_l1Mod.calls (wrap64 ((rd t813 a2_0) + a2_1)) a0_1 t817 _ A7.out).mono ?_
  rintro e w' ⟨rfl, ⟨nd, rfl⟩⟩
  refine ⟨_, rfl, ?_⟩
  have p8 : 0 ≤ (a2_0 : Int) := of_decide_eq_true (by first | (with_reducible assumption) | assumption)
  have q8 : (a2_0 : Int) < ((t813.length : Int) : Int) := of_decide_eq_true (by first | (with_reducible assumption) | assumption)
  obtain ⟨go8, co8, eo8, gb8, gl8, cl8, HG8⟩ := Kd.R_form HO815.out (by omega)
  (first | cases eo8 | (injection eo8 with ea_ en_ ec_; (first | subst ea_ | (injection ea_ with ea_; subst ea_)); subst ec_; clear en_))
  have GB8 := Aside0.mk gb8
  have GG8 := Aside0.mk HG8
  clear gb8 gl8 HG8
  (first | simp only [add_plain] at hx816_0 | skip)
  obtain ⟨hx8_0, hf8_0⟩ := Kd.R_celln 0 HO815.out (a2_0 : Int) p8 q8
  replace p8 := eq_true p8
  replace q8 := eq_true q8
  have HP15 := Kd.R_putn HO815.out (a2_0 : Int) t817
  rw [← Ny818.out] at HP15
  have HQ15 := Aside0.mk HP15
  clear HP15
  refine hK.out _ _ ⟨(blk_cell BK812.out 0).trans rfl, (blk_cell BK812.out 1).trans rfl, (blk_cell BK811.out 0).trans rfl, (blk_cell BK811.out 1).trans rfl, hHeld.2.2.2.2⟩ (fun hHeld => ?_)
  clear hK K
  refine norm_ (a' := ?_) ?_ ?_
  rotate_left
  · show Act.put _ (some 23) _ = _
    simp only [Act.put, s_1, s_2, s_3, i64_w, i32_w]
    rfl
  refine pua 14 24 (bs_ 16 32767) HT_ ?_
  refine last_ (i := 15) (N := none) (bs_ 16 65535) rfl rfl (one_of HT_.out (by kernel_rfl)) (by decide) (fun K hK => ?_)
  refine skip_ (w1 := ?_) (by rfl) rfl ?_ ?_
  rotate_left
  · go_simp
    rfl
  refine hK.out _ _ ?_
  clear hK K
  refine done_ (done_of HT_.out (by kernel_rfl)) ?_
  try go_wp2_with (first | ((with_reducible refine gate_callee (f := 116) rfl ?_); refine goesL_ (some 26) rfl rfl Try.func116 (by kernel_rfl) rfl #[.slice (some ⟨go8, 0, none⟩) y818.length co14] rfl (by (try simp only [m_1, m_2, m_3]); first | done | (rw [show y818.length = t813.length from (Kd.R_reads' HQ15.out).1.symm] <;> rfl) | rfl | (simp only [m_4, m_5]; rfl)) ?_; (with_reducible refine (spec_whText.calls k _ _ y818 t819 _ ?side1 ?side2 A9.out).mono ?_); (case side1 => refine (Kd.R_reads' (e := 3) (base := w.heap.size) (ok := fun k_ => True) (n := t813.length) (c := co14) ?_).2.2; exact (by (with_reducible repeat (first | apply r_a | apply r_d | apply r_e)); exact HQ15.out)); (case side2 => rw [show y818.length = t813.length from (Kd.R_reads' HQ15.out).1.symm]; exact (Kd.R_reads' HO815.out).2.1); rintro e w16 ⟨rfl, hb⟩; refine ⟨_, rfl, ?_⟩; have n0_ := Aside0.mk (Kd.R_below (by (with_reducible repeat (first | apply r_a | apply r_d | apply r_e)); exact HQ15.out) hb); have n1_ := Aside0.mk (blk_below (g := gb811) (o := .cells #[.int .i64 a0_0, .int .i64 a0_1] 28 (0, 0)) (by (with_reducible repeat (first | refine g_d ?_ _ | refine g_e ?_ | refine g_a ?_ _)); refine blk_far ?_ (by have h_ := Kd.R_ne HO815.out BK811.out (by decide); intro e_; exact h_ (by rw [e_]; rfl)) _; (with_reducible repeat (first | refine g_d ?_ _ | refine g_e ?_ | refine g_a ?_ _)); exact BK811.out) hb); have n2_ := Aside0.mk (blk_below (g := gb812) (o := .cells #[.int .i64 a2_0, .int .i64 a2_1] 66 (0, 0)) (by (with_reducible repeat (first | refine g_d ?_ _ | refine g_e ?_ | refine g_a ?_ _)); refine blk_far ?_ (by have h_ := Kd.R_ne HO815.out BK812.out (by decide); intro e_; exact h_ (by rw [e_]; rfl)) _; (with_reducible repeat (first | refine g_d ?_ _ | refine g_e ?_ | refine g_a ?_ _)); exact BK812.out) hb); have n3_ := Aside0.mk (below_step (by repeat (first | (with_reducible first | exact HB.out | apply b_a | apply b_d | apply b_e | refine b_s ?_ GB8.out | refine b_s ?_ GE811.out | refine b_s ?_ GE812.out) | exact HB.out)) hb); clear HO815; clear BK811; clear BK812; clear HB; have HO815 := n0_; have BK811 := n1_; have BK812 := n2_; have HB := n3_; clear n0_ n1_ n2_ n3_; (try clear hb); (try clear hb2); (try clear hk); (try clear hi)))
  go_ret
  exact ⟨by first | rfl | (simp [errW_none, errW_some] <;> rfl) | (simp [*, errW_none, errW_some] <;> rfl), bB HB⟩
/-! ### spec_NextCodes: function 85 -/
mutual
def spec_NextCodes.l0 : Nat → ByteArray → List ByteArray → Int → Int → Int → Option (List ByteArray × Bool)
  | 0, _, _, _, _, _ => none
  | k + 1, x1, x6, x7, x821000, x821001 => if x7 < x821000 then ((some (([1, (-1)] : List Int) : List Int)).bind fun y822 => (spec_NextCodes.l1 k x1 x6 x7 y822 (y822.length : Int) 0 x821000 x821001)) else (some (x6, true))
def spec_NextCodes.l1 : Nat → ByteArray → List ByteArray → Int → List Int → Int → Int → Int → Int → Option (List ByteArray × Bool)
  | 0, _, _, _, _, _, _, _, _ => none
  | k + 1, x1, x6, x7, x22, x23, x24, x821000, x821001 => if x24 < x23 then (if 0 ≤ x24 then (if x24 < (x22.length : Int) then ((spec_whMake.f k x821000 x821001 x1 x7 (rd x22 x24)).bind fun t826 => (spec_NextCodes.l2 k x1 x6 x7 t826 0 x22 x23 x24 x821000 x821001)) else (none)) else (none)) else (spec_NextCodes.l0 k x1 x6 (wrap64 (x7 + 1)) x821000 x821001)
def spec_NextCodes.l2 : Nat → ByteArray → List ByteArray → Int → ByteArray → Int → List Int → Int → Int → Int → Int → Option (List ByteArray × Bool)
  | 0, _, _, _, _, _, _, _, _, _, _ => none
  | k + 1, x1, x6, x7, x10, x11, x22, x23, x24, x821000, x821001 => if x11 < (x6.length : Int) then (if 0 ≤ x11 then (if (Op.bytesLess ((rdOf ByteArray.empty x6 x11).toList) x10.toList) = true then (spec_NextCodes.l2 k x1 x6 x7 x10 (wrap64 (x11 + 1)) x22 x23 x24 x821000 x821001) else (if x11 = (x6.length : Int) then (if x11 ≤ (x6.length : Int) then ((some (x6.take (x11 : Int).toNat : List ByteArray)).bind fun y828 => (if x6.length < 8796093022000 then (spec_NextCodes.l1 k x1 ((y828 ++ [x10]) ++ x6.drop (x11 : Int).toNat) x7 x22 x23 (wrap64 (x24 + 1)) x821000 x821001) else (none))) else (none)) else (if (rdOf ByteArray.empty x6 x11).toList = x10.toList then (spec_NextCodes.l1 k x1 x6 x7 x22 x23 (wrap64 (x24 + 1)) x821000 x821001) else (if x11 ≤ (x6.length : Int) then ((some (x6.take (x11 : Int).toNat : List ByteArray)).bind fun y835 => (if x6.length < 8796093022000 then (spec_NextCodes.l1 k x1 ((y835 ++ [x10]) ++ x6.drop (x11 : Int).toNat) x7 x22 x23 (wrap64 (x24 + 1)) x821000 x821001) else (none))) else (none))))) else (none)) else (if x11 = (x6.length : Int) then (if 0 ≤ x11 then (if x11 ≤ (x6.length : Int) then ((some (x6.take (x11 : Int).toNat : List ByteArray)).bind fun y841 => (if x6.length < 8796093022000 then (spec_NextCodes.l1 k x1 ((y841 ++ [x10]) ++ x6.drop (x11 : Int).toNat) x7 x22 x23 (wrap64 (x24 + 1)) x821000 x821001) else (none))) else (none)) else (none)) else (if 0 ≤ x11 then (none) else (none)))
end
def spec_NextCodes.f (k : Nat) (a0_0 : Int) (a0_1 : Int) (a1 : ByteArray) : Option (List ByteArray × Bool) := (spec_whAsked.f k a0_0 a0_1 a1).bind fun t821 => (if t821 = true then (spec_NextCodes.l0 k a1 ([] : List ByteArray) 0 a0_0 a0_1) else (some (([] : List ByteArray), false)))
theorem spec_NextCodes.mono_l : ∀ k, (∀ y0 y1 y2 y3 y4, LeO (spec_NextCodes.l0 k y0 y1 y2 y3 y4) (spec_NextCodes.l0 (k + 1) y0 y1 y2 y3 y4)) ∧ (∀ y0 y1 y2 y3 y4 y5 y6 y7, LeO (spec_NextCodes.l1 k y0 y1 y2 y3 y4 y5 y6 y7) (spec_NextCodes.l1 (k + 1) y0 y1 y2 y3 y4 y5 y6 y7)) ∧ (∀ y0 y1 y2 y3 y4 y5 y6 y7 y8 y9, LeO (spec_NextCodes.l2 k y0 y1 y2 y3 y4 y5 y6 y7 y8 y9) (spec_NextCodes.l2 (k + 1) y0 y1 y2 y3 y4 y5 y6 y7 y8 y9))
  | 0 => ⟨fun _ _ _ _ _ r h => by simp [spec_NextCodes.l0] at h, fun _ _ _ _ _ _ _ _ r h => by simp [spec_NextCodes.l1] at h, fun _ _ _ _ _ _ _ _ _ _ r h => by simp [spec_NextCodes.l2] at h⟩
  | k + 1 => by
    obtain ⟨ih0, ih1, ih2⟩ := spec_NextCodes.mono_l k
    refine ⟨?_, ?_, ?_⟩
    · intro y0 y1 y2 y3 y4
      unfold spec_NextCodes.l0
      repeat' first
      | (with_reducible exact ih0 _ _ _ _ _)
      | (with_reducible exact ih1 _ _ _ _ _ _ _ _)
      | (with_reducible exact ih2 _ _ _ _ _ _ _ _ _ _)
      | (with_reducible exact spec_whAsked.mono _ _ _ _)
      | (with_reducible exact spec_whMake.mono _ _ _ _ _ _)
      | (with_reducible exact LeO.refl _)
      | (with_reducible exact LeO.none _)
      | (with_reducible refine LeO.ite ?_ ?_)
      | (with_reducible refine LeO.bind ?_ (fun _ => ?_))
      | exact ih0 _ _ _ _ _
      | exact ih1 _ _ _ _ _ _ _ _
      | exact ih2 _ _ _ _ _ _ _ _ _ _
      | exact spec_whAsked.mono _ _ _ _
      | exact spec_whMake.mono _ _ _ _ _ _
      | exact LeO.none _
      | refine LeO.ite ?_ ?_
      | refine LeO.bind ?_ (fun _ => ?_)
    · intro y0 y1 y2 y3 y4 y5 y6 y7
      unfold spec_NextCodes.l1
      repeat' first
      | (with_reducible exact ih0 _ _ _ _ _)
      | (with_reducible exact ih1 _ _ _ _ _ _ _ _)
      | (with_reducible exact ih2 _ _ _ _ _ _ _ _ _ _)
      | (with_reducible exact spec_whAsked.mono _ _ _ _)
      | (with_reducible exact spec_whMake.mono _ _ _ _ _ _)
      | (with_reducible exact LeO.refl _)
      | (with_reducible exact LeO.none _)
      | (with_reducible refine LeO.ite ?_ ?_)
      | (with_reducible refine LeO.bind ?_ (fun _ => ?_))
      | exact ih0 _ _ _ _ _
      | exact ih1 _ _ _ _ _ _ _ _
      | exact ih2 _ _ _ _ _ _ _ _ _ _
      | exact spec_whAsked.mono _ _ _ _
      | exact spec_whMake.mono _ _ _ _ _ _
      | exact LeO.none _
      | refine LeO.ite ?_ ?_
      | refine LeO.bind ?_ (fun _ => ?_)
    · intro y0 y1 y2 y3 y4 y5 y6 y7 y8 y9
      unfold spec_NextCodes.l2
      repeat' first
      | (with_reducible exact ih0 _ _ _ _ _)
      | (with_reducible exact ih1 _ _ _ _ _ _ _ _)
      | (with_reducible exact ih2 _ _ _ _ _ _ _ _ _ _)
      | (with_reducible exact spec_whAsked.mono _ _ _ _)
      | (with_reducible exact spec_whMake.mono _ _ _ _ _ _)
      | (with_reducible exact LeO.refl _)
      | (with_reducible exact LeO.none _)
      | (with_reducible refine LeO.ite ?_ ?_)
      | (with_reducible refine LeO.bind ?_ (fun _ => ?_))
      | exact ih0 _ _ _ _ _
      | exact ih1 _ _ _ _ _ _ _ _
      | exact ih2 _ _ _ _ _ _ _ _ _ _
      | exact spec_whAsked.mono _ _ _ _
      | exact spec_whMake.mono _ _ _ _ _ _
      | exact LeO.none _
      | refine LeO.ite ?_ ?_
      | refine LeO.bind ?_ (fun _ => ?_)
theorem spec_NextCodes.mono : ∀ a0 a1 a2 k, LeO (spec_NextCodes.f k a0 a1 a2) (spec_NextCodes.f (k + 1) a0 a1 a2) := by
  intro a0 a1 a2 k
  obtain ⟨ih0, ih1, ih2⟩ := spec_NextCodes.mono_l k
  unfold spec_NextCodes.f
  repeat' first
      | (with_reducible exact ih0 _ _ _ _ _)
      | (with_reducible exact ih1 _ _ _ _ _ _ _ _)
      | (with_reducible exact ih2 _ _ _ _ _ _ _ _ _ _)
      | (with_reducible exact spec_whAsked.mono _ _ _ _)
      | (with_reducible exact spec_whMake.mono _ _ _ _ _ _)
      | (with_reducible exact LeO.refl _)
      | (with_reducible exact LeO.none _)
      | (with_reducible refine LeO.ite ?_ ?_)
      | (with_reducible refine LeO.bind ?_ (fun _ => ?_))
      | exact ih0 _ _ _ _ _
      | exact ih1 _ _ _ _ _ _ _ _
      | exact ih2 _ _ _ _ _ _ _ _ _ _
      | exact spec_whAsked.mono _ _ _ _
      | exact spec_whMake.mono _ _ _ _ _ _
      | exact LeO.none _
      | refine LeO.ite ?_ ?_
      | refine LeO.bind ?_ (fun _ => ?_)
set_option maxHeartbeats 8000000 in
set_option maxRecDepth 100000 in
theorem spec_NextCodes.calls (k : Nat) (a0_0 : Int) (a0_1 : Int) (a1 : ByteArray) (r1 : List ByteArray) (r2 : Bool) (w : World) (h : spec_NextCodes.f k a0_0 a0_1 a1 = some (r1, r2)) :
    Calls Try.prog 85 #[.agg #[.int .i64 a0_0, .int .i64 a0_1], .string a1] w fun e w' => ∃ v0_ : Value, e = .returned (.tuple #[v0_, .bool r2]) ∧ Kd.R Kd.string 9 w' w.heap.size (fun _ => True) v0_ r1 ∧ Below w.heap.size w w' := by
  have hu28 := Try.underlying28
  have hu66 := Try.underlying66
  have HB := Aside0.mk (Below.refl w.heap.size w)
  have H : ((spec_whAsked.f k a0_0 a0_1 a1).bind fun t821 => (if t821 = true then (spec_NextCodes.l0 k a1 ([] : List ByteArray) 0 a0_0 a0_1) else (some (([] : List ByteArray), false)))) = some (r1, r2) := h
  clear h
  replace H := Option.bind_eq_some_iff.mp H
  obtain ⟨t821, A30, H⟩ := H
  try dsimp only at H
  have A3 := Aside0.mk A30
  clear A30
  by_cases c4 : t821 = true
  rotate_left
  · replace c4 := Bool.eq_false_iff.mpr c4
    subst c4
    rw [if_neg (show ¬ (false = true) by decide)] at H
    simp only [Option.some.injEq, Prod.mk.injEq] at H
    obtain ⟨rfl, rfl⟩ := H
    go_enter Try.func85, Try.ntmps85
    go_wp2_with (first | ((with_reducible refine gate_dst (N := 2) rfl ?_); refine box_event ?hg (N := 2) ?hd (cs := #[.int .i64 a0_0, .int .i64 a0_1]) (t := 28) ?hr ?_; (case hd => rfl); (case hg => rfl); (case hr => first | (go_simp; done) | (go_simp; rfl)); intro gb820 hg w48 hbox hb; have n0_ := bsx hb HB; have n1_ := Aside0.mk (hbox); have n2_ := gwx hg HB; have n3_ := n2_; clear HB; have HB := n0_; have BK820 := n1_; have GW820 := n2_; have GE820 := n3_; clear n0_ n1_ n2_ n3_; clear hb hbox hg; have hcz49_0 := cz0 BK820; have hcz49_1 := cz1 BK820; have hfz49_0 := blk_frozen BK820.out 0; have hfz49_1 := blk_frozen BK820.out 1) | ((with_reducible refine gate_callee (f := 137) rfl ?_); refine goesL_ (some 14) rfl rfl Try.func137 (by kernel_rfl) rfl #[.agg #[.int .i64 a0_0, .int .i64 a0_1], .string a1] rfl (by (try simp only [m_1, m_2, m_3]); first | done | rfl | (simp only [m_4, m_5]; rfl)) ?_; (with_reducible refine (spec_whAsked.calls k a0_0 a0_1 a1 false _ A3.out).mono ?_); rintro e w50 ⟨rfl, hb⟩; refine ⟨_, rfl, ?_⟩; replace BK820 := bbx hb BK820; replace HB := bsx hb HB; skip; (try clear hb); (try clear hb2); (try clear hk); (try clear hi)))
    go_ret2
    exact ⟨_, by first | rfl | (simp [errW_none, errW_some] <;> rfl) | (simp [*, errW_none, errW_some] <;> rfl), by first | exact Kd.R_nil _ _ _ _ _ | exact Kd.N_nil _ _ _ _ _ | exact Kd.V_nil _ _ _ _ _ | exact Kd.Q_nil _ _ _ _ _ | exact Kd.S_nil _ _ _ _ _, bB HB⟩

  subst c4
  rw [if_pos rfl] at H
  have H' := Aside0.mk H
  clear H
  go_enter Try.func85, Try.ntmps85
  go_wp2_with (first | ((with_reducible refine gate_dst (N := 2) rfl ?_); refine box_event ?hg (N := 2) ?hd (cs := #[.int .i64 a0_0, .int .i64 a0_1]) (t := 28) ?hr ?_; (case hd => rfl); (case hg => rfl); (case hr => first | (go_simp; done) | (go_simp; rfl)); intro gb820 hg w5 hbox hb; have n0_ := bsx hb HB; have n1_ := Aside0.mk (hbox); have n2_ := gwx hg HB; have n3_ := n2_; clear HB; have HB := n0_; have BK820 := n1_; have GW820 := n2_; have GE820 := n3_; clear n0_ n1_ n2_ n3_; clear hb hbox hg; have hcz6_0 := cz0 BK820; have hcz6_1 := cz1 BK820; have hfz6_0 := blk_frozen BK820.out 0; have hfz6_1 := blk_frozen BK820.out 1) | ((with_reducible refine gate_callee (f := 137) rfl ?_); refine goesL_ (some 14) rfl rfl Try.func137 (by kernel_rfl) rfl #[.agg #[.int .i64 a0_0, .int .i64 a0_1], .string a1] rfl (by (try simp only [m_1, m_2, m_3]); first | done | rfl | (simp only [m_4, m_5]; rfl)) ?_; (with_reducible refine (spec_whAsked.calls k a0_0 a0_1 a1 true _ A3.out).mono ?_); rintro e w7 ⟨rfl, hb⟩; refine ⟨_, rfl, ?_⟩; replace BK820 := bbx hb BK820; replace HB := bsx hb HB; skip; (try clear hb); (try clear hb2); (try clear hk); (try clear hi)))
  go_loopg [6, 7] k (fun kq v6 v7 w' => ∃ (x6_1 : List ByteArray) (x7_1 : Int), v7 = .int .i64 x7_1 ∧ Aside0 (spec_NextCodes.l0 kq a1 x6_1 x7_1 a0_0 a0_1 = some (r1, r2)) ∧ Aside0 (kq ≤ k) ∧ Aside0 (Kd.R Kd.string 9 w' w.heap.size (fun _ => True) v6 x6_1) ∧ Aside0 (w'.heap[gb820]? = some (.cells #[.int .i64 a0_0, .int .i64 a0_1] 28 (0, 0))) ∧ Aside0 (Below w.heap.size w w'))
  case atStart => exact ⟨(([] : List ByteArray)), (0), (by first | rfl | (simp; done) | (simp [*]; done)), H', ⟨Nat.le_refl _⟩, ⟨by first | exact Kd.R_nil _ _ _ _ _ | exact Kd.N_nil _ _ _ _ _ | exact Kd.V_nil _ _ _ _ _ | exact Kd.Q_nil _ _ _ _ _ | exact Kd.S_nil _ _ _ _ _⟩, ⟨bK BK820⟩, ⟨bB HB⟩⟩
  clear H'
  try clear c4
  try clear hcz6_0
  try clear hcz6_1
  try clear hfz6_0
  try clear hfz6_1
  obtain ⟨x6_1, x7_1, rfl, HA, HK1, HO_6, BK820, HB⟩ := hrel
  rcases gk with _ | k1
  · exact absurd HA.out (by simp [spec_NextCodes.l0])
  have H := HA.out
  clear HA
  simp only [spec_NextCodes.l0] at H
  by_cases c8 : x7_1 < a0_0
  rotate_left
  · rw [if_neg c8] at H
    have c8b0 : decide (x7_1 < a0_0) = false := decide_eq_false c8
    clear c8
    simp only [Option.some.injEq, Prod.mk.injEq] at H
    obtain ⟨rfl, rfl⟩ := H
    have hcz47_0 := cz0 BK820
    have hcz47_1 := cz1 BK820
    have hfz47_0 := blk_frozen BK820.out 0
    have hfz47_1 := blk_frozen BK820.out 1
    go_wp2
    go_ret2
    exact ⟨_, by first | rfl | (simp [errW_none, errW_some] <;> rfl) | (simp [*, errW_none, errW_some] <;> rfl), by (with_reducible repeat (first | apply r_a | apply r_d | apply r_e)); exact HO_6.out, bB HB⟩
  rw [if_pos c8] at H
  have c8b0 : decide (x7_1 < a0_0) = true := decide_eq_true c8
  clear c8
  obtain ⟨y822, hy822⟩ : ∃ y_ : List Int, y_ = (([1, (-1)] : List Int)) := ⟨_, rfl⟩
  replace H : (spec_NextCodes.l1 k1 a1 x6_1 x7_1 y822 (y822.length : Int) 0 a0_0 a0_1) = some (r1, r2) := by first | (rw [hy822]; with_reducible exact H) | (have H2_ := (Option.bind_some _ _).symm.trans H; rw [hy822]; with_reducible exact H2_) | (have H2_ := (Option.bind_some _ _).symm.trans H; with_reducible exact H2_) | with_reducible exact H | (rw [hy822]; exact H) | exact H
  have Ny822 := Aside0.mk hy822
  clear hy822
  have H' := Aside0.mk H
  clear H
  have hcz9_0 := cz0 BK820
  have hcz9_1 := cz1 BK820
  have hfz9_0 := blk_frozen BK820.out 0
  have hfz9_1 := blk_frozen BK820.out 1
  go_wp2_with (first | ((with_reducible refine gate_dst (N := 22) rfl ?_); refine Kd.R_lit (Kd.int .i64) _ 3 ?hg (N := 22) ?hd (xs := ([1, (-1)] : List Int)) (inner := [.int .i64 1, .int .i64 (-1)]) (ok := fun _ => True) (okp := fun _ => True) ?hr ?hp (fun _ hk => hk) trivial (Below.refl _ _) (Nat.le_refl _) (by simp) ?_; (case hd => rfl); (case hg => rfl); (case hr => first | (go_simp; done) | (go_simp; rfl)); (case hp => exact (Reps.one (show Kd.M (Kd.int .i64) _ _ _ 1 [.int .i64 1] from rfl) (Reps.one (show Kd.M (Kd.int .i64) _ _ _ (-1) [.int .i64 (-1)] from rfl) (Reps.none _ _)))); intro v823 w10 ho11 hb hg_ hnew_; clear hg_ hnew_; (first | rw [← Ny822.out] at ho11 | (simp only [Int.reduceToNat] at ho11; rw [← Ny822.out] at ho11)); have n0_ := Aside0.mk (Kd.R_below (by (with_reducible repeat (first | apply r_a | apply r_d | apply r_e)); exact HO_6.out) hb); have n1_ := Aside0.mk (Kd.R_lower ho11 (below_size (bB HB))); replace BK820 := bbx hb BK820; have n3_ := bsx hb HB; clear HO_6; clear HB; have HO_6 := n0_; have HO824 := n1_; have HB := n3_; clear n0_ n1_ n3_; clear hb ho11; obtain ⟨Ao12, co12, eo12⟩ := Kd.R_slice HO824.out; subst eo12))
  go_loopg [6, 24] k1 (fun kq v6 v24 w' => ∃ (x6_2 : List ByteArray) (x24_2 : Int), v24 = .int .i64 x24_2 ∧ Aside0 (spec_NextCodes.l1 kq a1 x6_2 x7_1 y822 (y822.length : Int) x24_2 a0_0 a0_1 = some (r1, r2)) ∧ Aside0 (kq ≤ k1) ∧ Aside0 (Kd.R Kd.string 9 w' w.heap.size (fun _ => True) v6 x6_2) ∧ Aside0 (Kd.R (Kd.int .i64) 3 w' w.heap.size (fun _ => True) (.slice Ao12 y822.length co12) y822) ∧ Aside0 (w'.heap[gb820]? = some (.cells #[.int .i64 a0_0, .int .i64 a0_1] 28 (0, 0))) ∧ Aside0 (Below w.heap.size w w'))
  case atStart => refine ⟨(x6_1), (0), (by first | rfl | (simp; done) | (simp [*]; done)), H', ⟨Nat.le_refl _⟩, ⟨?_⟩, ⟨?_⟩, ⟨?_⟩, ⟨bB HB⟩⟩ <;> (with_reducible repeat (first | refine g_d ?_ _ | refine g_e ?_ | refine g_a ?_ _ | apply r_a | apply r_d | apply r_e)) <;> first | exact BK820.out | exact HO_6.out | exact HO824.out
  clear H'
  try clear c8
  try clear c8b0
  try clear hcz9_0
  try clear hcz9_1
  try clear hfz9_0
  try clear hfz9_1
  obtain ⟨x6_2, x24_2, rfl, HA, HK2, HO_6, HO_22, BK820, HB⟩ := hrel
  rcases gk with _ | k2
  · exact absurd HA.out (by simp [spec_NextCodes.l1])
  have H := HA.out
  clear HA
  simp only [spec_NextCodes.l1] at H
  by_cases c13 : x24_2 < (y822.length : Int)
  rotate_left
  · rw [if_neg c13] at H
    have c13b0 : decide (x24_2 < (y822.length : Int)) = false := decide_eq_false c13
    clear c13
    have H' := Aside0.mk H
    clear H
    go_wp2
    go_roundg k2
    case measure => have := HK1.out; have := HK2.out; omega
    case rel => refine ⟨(x6_2), (wrap64 (x7_1 + 1)), (by first | rfl | (simp; done) | (simp [*]; done)), H', ⟨by have := HK1.out; have := HK2.out; omega⟩, ⟨?_⟩, ⟨?_⟩, ⟨bB HB⟩⟩ <;> (with_reducible repeat (first | refine g_d ?_ _ | refine g_e ?_ | refine g_a ?_ _ | apply r_a | apply r_d | apply r_e)) <;> first | exact BK820.out | exact HO_6.out
  rw [if_pos c13] at H
  have c13b0 : decide (x24_2 < (y822.length : Int)) = true := decide_eq_true c13
  clear c13
  by_cases c14 : 0 ≤ x24_2
  rotate_left
  · rw [if_neg c14] at H
    exact absurd H (by simp)
  rw [if_pos c14] at H
  have c14b0 : decide (0 ≤ x24_2) = true := decide_eq_true c14
  clear c14
  by_cases c15 : x24_2 < (y822.length : Int)
  rotate_left
  · rw [if_neg c15] at H
    exact absurd H (by simp)
  rw [if_pos c15] at H
  have c15b0 : decide (x24_2 < (y822.length : Int)) = true := decide_eq_true c15
  clear c15
  replace H := Option.bind_eq_some_iff.mp H
  obtain ⟨t826, A160, H⟩ := H
  try dsimp only at H
  have A16 := Aside0.mk A160
  clear A160
  have H' := Aside0.mk H
  clear H
  have p825 : 0 ≤ (x24_2 : Int) := of_decide_eq_true (by first | (with_reducible assumption) | assumption)
  have q825 : x24_2 < (y822.length : Int) := of_decide_eq_true (by first | (with_reducible assumption) | assumption)
  obtain ⟨ad825, e825, hx825_0⟩ := Kd.at_int (Kd.R_reads' HO_22.out).2.2 x24_2 p825 q825
  cases e825
  replace p825 := eq_true p825
  replace q825 := eq_true q825
  have hcz17_0 := cz0 BK820
  have hcz17_1 := cz1 BK820
  have hfz17_0 := blk_frozen BK820.out 0
  have hfz17_1 := blk_frozen BK820.out 1
  go_wp2_with (first | ((with_reducible refine gate_callee (f := 138) rfl ?_); refine goesL_ (some 33) rfl rfl Try.func138 (by kernel_rfl) rfl #[.agg #[.int .i64 a0_0, .int .i64 a0_1], .string a1, .agg #[.int .i64 x7_1, .int .i64 (rd y822 x24_2)]] rfl (by (try simp only [m_1, m_2, m_3]); first | done | rfl | (simp only [m_4, m_5]; rfl)) ?_; (with_reducible refine (spec_whMake.calls k2 a0_0 a0_1 a1 x7_1 (rd y822 x24_2) t826 _ A16.out).mono ?_); rintro e w18 ⟨rfl, hb⟩; refine ⟨_, rfl, ?_⟩; have n0_ := Aside0.mk (Kd.R_below (by (with_reducible repeat (first | apply r_a | apply r_d | apply r_e)); exact HO_6.out) hb); have n1_ := Aside0.mk (Kd.R_below (by (with_reducible repeat (first | apply r_a | apply r_d | apply r_e)); exact HO_22.out) hb); replace BK820 := bbx hb BK820; replace HB := bsx hb HB; clear HO_6; clear HO_22; have HO_6 := n0_; have HO_22 := n1_; clear n0_ n1_; (try clear hb); (try clear hb2); (try clear hk); (try clear hi)))
  go_loopg [11] k2 (fun kq v11 w' => ∃ (x11_3 : Int), v11 = .int .i64 x11_3 ∧ Aside0 (spec_NextCodes.l2 kq a1 x6_2 x7_1 t826 x11_3 y822 (y822.length : Int) x24_2 a0_0 a0_1 = some (r1, r2)) ∧ Aside0 (kq ≤ k2) ∧ Aside0 (Kd.R Kd.string 9 w' w.heap.size (fun _ => True) u6 x6_2) ∧ Aside0 (Kd.R (Kd.int .i64) 3 w' w.heap.size (fun _ => True) (.slice (some ad825) y822.length co12) y822) ∧ Aside0 (w'.heap[gb820]? = some (.cells #[.int .i64 a0_0, .int .i64 a0_1] 28 (0, 0))) ∧ Aside0 (Below w.heap.size w w'))
  case atStart => refine ⟨(0), (by first | rfl | (simp; done) | (simp [*]; done)), H', ⟨Nat.le_refl _⟩, ⟨?_⟩, ⟨?_⟩, ⟨?_⟩, ⟨bB HB⟩⟩ <;> (with_reducible repeat (first | refine g_d ?_ _ | refine g_e ?_ | refine g_a ?_ _ | apply r_a | apply r_d | apply r_e)) <;> first | exact BK820.out | exact HO_6.out | exact HO_22.out
  clear H'
  try clear c13
  try clear c13b0
  try clear c14
  try clear c14b0
  try clear c15
  try clear c15b0
  try clear hcz17_0
  try clear hcz17_1
  try clear hfz17_0
  try clear hfz17_1
  try clear hx825_0
  try clear p825
  try clear q825
  obtain ⟨x11_3, rfl, HA, HK3, HO_6, HO_22, BK820, HB⟩ := hrel
  rcases gk with _ | k3
  · exact absurd HA.out (by simp [spec_NextCodes.l2])
  have H := HA.out
  clear HA
  simp only [spec_NextCodes.l2] at H
  by_cases c19 : x11_3 < (x6_2.length : Int)
  rotate_left
  · rw [if_neg c19] at H
    have c19b0 : decide (x11_3 < (x6_2.length : Int)) = false := decide_eq_false c19
    clear c19
    by_cases c38 : x11_3 = (x6_2.length : Int)
    rotate_left
    · rw [if_neg c38] at H
      have c38b0 : (x11_3 == (x6_2.length : Int)) = false := beq_eq_false_iff_ne.mpr c38
      have c38b1 : (x11_3 != (x6_2.length : Int)) = true := bne_iff_ne.mpr c38
      by_cases c46 : 0 ≤ x11_3
      rotate_left
      · rw [if_neg c46] at H
        exact absurd H (by simp)
      rw [if_pos c46] at H
      exact absurd H (by simp)
    rw [if_pos c38] at H
    have c38b0 : (x11_3 == (x6_2.length : Int)) = true := beq_iff_eq.mpr c38
    have c38b1 : (x11_3 != (x6_2.length : Int)) = false := bne_eq_false_iff_eq.mpr c38
    clear c38
    by_cases c39 : 0 ≤ x11_3
    rotate_left
    · rw [if_neg c39] at H
      exact absurd H (by simp)
    rw [if_pos c39] at H
    have c39b0 := eq_true c39
    have c39b1 : decide (0 ≤ x11_3) = true := decide_eq_true c39
    clear c39
    by_cases c40 : x11_3 ≤ (x6_2.length : Int)
    rotate_left
    · rw [if_neg c40] at H
      exact absurd H (by simp)
    rw [if_pos c40] at H
    have c40b0 := eq_true c40
    have c40b1 : decide (x11_3 ≤ (x6_2.length : Int)) = true := decide_eq_true c40
    clear c40
    obtain ⟨y841, hy841⟩ : ∃ y_ : List ByteArray, y_ = (x6_2.take (x11_3 : Int).toNat) := ⟨_, rfl⟩
    replace H : (if x6_2.length < 8796093022000 then (spec_NextCodes.l1 k3 a1 ((y841 ++ [t826]) ++ x6_2.drop (x11_3 : Int).toNat) x7_1 y822 (y822.length : Int) (wrap64 (x24_2 + 1)) a0_0 a0_1) else (none)) = some (r1, r2) := by first | (rw [hy841]; with_reducible exact H) | (have H2_ := (Option.bind_some _ _).symm.trans H; rw [hy841]; with_reducible exact H2_) | (have H2_ := (Option.bind_some _ _).symm.trans H; with_reducible exact H2_) | with_reducible exact H | (rw [hy841]; exact H) | exact H
    have Ny841 := Aside0.mk hy841
    clear hy841
    by_cases c41 : x6_2.length < 8796093022000
    rotate_left
    · rw [if_neg c41] at H
      exact absurd H (by simp)
    rw [if_pos c41] at H
    have LMc41 := Aside0.mk c41
    clear c41
    obtain ⟨y844, hy844⟩ : ∃ y_ : List ByteArray, y_ = ((y841 ++ [t826]) ++ x6_2.drop (x11_3 : Int).toNat) := ⟨_, rfl⟩
    replace H : (spec_NextCodes.l1 k3 a1 y844 x7_1 y822 (y822.length : Int) (wrap64 (x24_2 + 1)) a0_0 a0_1) = some (r1, r2) := by first | (rw [hy844]; with_reducible exact H) | (have H2_ := (Option.bind_some _ _).symm.trans H; rw [hy844]; with_reducible exact H2_) | (have H2_ := (Option.bind_some _ _).symm.trans H; with_reducible exact H2_) | with_reducible exact H | (rw [hy844]; exact H) | exact H
    have Ny844 := Aside0.mk hy844
    clear hy844
    have H' := Aside0.mk H
    clear H
    obtain ⟨Ao42, co42, eo42⟩ := Kd.R_slice HO_6.out
    subst eo42
    try go_wp2
    have n0_ := Aside0.mk (r_e HO_6.out)
    have n1_ := Aside0.mk (r_e HO_22.out)
    have n2_ := Aside0.mk (g_e BK820.out)
    have n3_ := Aside0.mk (b_e HB.out)
    clear HO_6
    clear HO_22
    clear BK820
    clear HB
    have HO_6 := n0_
    have HO_22 := n1_
    have BK820 := n2_
    have HB := n3_
    clear n0_ n1_ n2_ n3_
    have q44 : (x11_3 : Int) ≤ ((x6_2.length : Int) : Int) := of_decide_eq_true (by first | (with_reducible assumption) | assumption)
    obtain ⟨i044, hi044, _, hsz44, _⟩ := info_parts info9
    have h0q := (of_decide_eq_true (by first | (with_reducible assumption) | assumption) : 0 ≤ (x11_3 : Int))
    have hcut44 := cut_to (P := Try.prog) 24 9 .i64 Try.underlying24 hi044 Ao42 x6_2.length co42 x11_3 (of_decide_eq_true (by first | (with_reducible assumption) | assumption)) q44 (Kd.R_reads' HO_6.out).2.1
    have hcutD44 := cut_from (P := Try.prog) 24 9 .i64 Try.underlying24 hi044 1 hsz44 Ao42 x6_2.length co42 x11_3 h0q q44
    obtain ⟨XT_, hXT⟩ : ∃ y_ : List ByteArray, y_ = x6_2.take (x11_3 : Int).toNat := ⟨_, rfl⟩
    obtain ⟨XD_, hXD⟩ : ∃ y_ : List ByteArray, y_ = x6_2.drop (x11_3 : Int).toNat := ⟨_, rfl⟩
    have lT : XT_.length = (x11_3 : Int).toNat := by rw [hXT, m_5]; omega
    have lD : XD_.length = x6_2.length - (x11_3 : Int).toNat := by rw [hXD, m_4]
    have hCT := Kd.C_take (m := (x11_3 : Int).toNat) (Kd.R_reads' HO_6.out).2.2 (by omega)
    have hCD := Kd.C_drop (c := co42) (m := (x11_3 : Int).toNat) (Kd.R_reads' HO_6.out).2.2 (by omega) (Kd.R_reads' HO_6.out).2.1
    rw [← hXT] at hCT
    rw [← hXD] at hCD
    simp only [show Kd.string.sz = 1 from rfl, Nat.mul_one] at hCD
    simp only [Nat.mul_one] at hcutD44
    generalize hAD : (if co42 = (x11_3 : Int).toNat then Ao42 else Option.map (fun x => x.add (x11_3 : Int).toNat) Ao42) = AD_ at hcutD44 hCD
    clear hAD
    rw [← lT] at hcut44
    rw [← lD] at hcutD44
    have HCT := Aside0.mk hCT
    have HCD := Aside0.mk hCD
    have NXT := Aside0.mk hXT
    have NXD := Aside0.mk hXD
    have LMT := Aside0.mk lT
    have LMD := Aside0.mk lD
    have LMK := Aside0.mk (And.intro LMc41.out (show (x11_3 : Int).toNat ≤ x6_2.length by omega))
    clear hCT hCD hXT hXD lT lD h0q hi044 hsz44 HO_6
    replace q44 := eq_true q44
    have HBr := Aside0.mk (Below.refl wr.drew.heap.size wr.drew)
    refine start_ (n := 13) (S := fun w' => True) (ds := []) (bs_ 13 0) (by kernel_rfl) rfl rfl trivial (fun hHeld => ?_)
    generalize wr.drew = WB_ at HO_22 BK820 HB HCT HCD HBr hHeld ⊢
    refine pure_ (i := 1) (N := some 61) (v := ?_) (a' := ?_) (bs_ 13 2) rfl rfl (by kernel_rfl) (fun _ _ _ h => h) (Or.inl ⟨by rfl, ?_⟩) ?_ ?_
    rotate_left
    · intro w'
      go_simp
      with_reducible rfl
    rotate_left
    · simp only [Act.put, s_1, s_2, s_3, i64_w, i32_w]
      rfl
    refine pure_ (i := 2) (N := some 62) (v := ?_) (a' := ?_) (bs_ 13 6) rfl rfl (by kernel_rfl) (fun _ _ _ h => h) (Or.inl ⟨by rfl, ?_⟩) ?_ ?_
    rotate_left
    · intro w'
      go_simp
      with_reducible rfl
    rotate_left
    · simp only [Act.put, s_1, s_2, s_3, i64_w, i32_w]
      rfl
    refine pure_ (i := 3) (N := some 63) (v := ?_) (a' := ?_) (bs_ 13 14) rfl rfl (by kernel_rfl) (fun _ _ _ h => h) (Or.inl ⟨by rfl, ?_⟩) ?_ ?_
    rotate_left
    · intro w'
      go_simp
      with_reducible rfl
    rotate_left
    · simp only [Act.put, s_1, s_2, s_3, i64_w, i32_w]
      rfl
    refine pure_ (i := 5) (N := some 65) (v := ?_) (a' := ?_) (bs_ 13 46) rfl rfl (by kernel_rfl) (fun _ _ _ h => h) (Or.inl ⟨by rfl, ?_⟩) ?_ ?_
    rotate_left
    · intro w'
      go_simp
      with_reducible rfl
    rotate_left
    · simp only [Act.put, s_1, s_2, s_3, i64_w, i32_w]
      rfl
    refine pure_ (i := 8) (N := some 68) (v := ?_) (a' := ?_) (bs_ 13 302) rfl rfl (by kernel_rfl) (fun _ _ _ h => h) (Or.inl ⟨by rfl, ?_⟩) ?_ ?_
    rotate_left
    · intro w'
      go_simp
      with_reducible rfl
    rotate_left
    · simp only [Act.put, s_1, s_2, s_3, i64_w, i32_w]
      rfl
    refine pure_ (i := 9) (N := some 69) (v := ?_) (a' := ?_) (bs_ 13 814) rfl rfl (by kernel_rfl) (fun _ _ _ h => h) (Or.inl ⟨by rfl, ?_⟩) ?_ ?_
    rotate_left
    · intro w'
      go_simp
      with_reducible rfl
    rotate_left
    · simp only [Act.put, s_1, s_2, s_3, i64_w, i32_w]
      rfl
    refine pure_ (i := 10) (N := some 70) (v := ?_) (a' := ?_) (bs_ 13 1838) rfl rfl (by kernel_rfl) (fun _ _ _ h => h) (Or.inl ⟨by rfl, ?_⟩) ?_ ?_
    rotate_left
    · intro w'
      go_simp
      with_reducible rfl
    rotate_left
    · simp only [Act.put, s_1, s_2, s_3, i64_w, i32_w]
      rfl
    refine join_ (σ := Value × Value × Value) 3 (bs_ 13 1919) (fun s => [(60, s.1), (64, s.2.1), (66, s.2.2)]) (fun s w' => Kd.R Kd.string 9 w' WB_.heap.size (fun k_ => some k_ ≠ s.2.2.ownBlock) s.2.1 XT_ ∧ Kd.R Kd.string 9 w' WB_.heap.size (fun k_ => some k_ ≠ s.2.1.ownBlock) s.2.2 [t826] ∧ Below WB_.heap.size WB_ w') ?_ ?_
    rotate_left
    · intro hCont
      refine two_ (i := 0) (j := 6) (Ni := some 60) (Nj := some 66) (bs_ 13 1839) (bs_ 13 1902) rfl rfl rfl rfl (by kernel_rfl) (by decide) (by decide) (fun K hK => ?_) (fun K hK => ?_)
      rotate_left
      · skip
        refine Kd.R_lit_step Kd.string _ 9 ?hg (N := 66) ?hd (xs := ([t826] : List ByteArray)) (inner := [.string t826]) (ok := fun _ => True) (okp := fun _ => True) ?hr ?hp (fun _ hk => hk) trivial (Below.refl _ _) (Nat.le_refl _) (by simp) ?_; (case hd => rfl); (case hg => rfl); (case hr => first | (go_simp; done) | (go_simp; rfl)); (case hp => exact (Reps.one (show Kd.M Kd.string _ _ _ t826 [.string t826] from rfl) (Reps.none _ _)))
        intro v66 w66 ho hb hg_ hnew_
        clear hg_ hnew_
        have H66 := Aside0.mk (Kd.R_lower ho HBr.out.size)
        replace HBr := Aside0.mk (below_step HBr.out hb)
        clear hb ho
        refine hK.out _ _ trivial (fun hHeld => ?_)
        clear hK K
        refine norm_ (a' := ?_) ?_ ?_
        rotate_left
        · show Act.put _ (some 66) _ = _
          simp only [Act.put, s_1, s_2, s_3, i64_w, i32_w]
          rfl
        refine one_ (i := 0) (N := some 60) (bs_ 13 1903) rfl rfl (by kernel_rfl) (by decide) (fun K hK => ?_)
        refine Kd.R_lit_step Kd.string _ 9 ?hg (N := 60) ?hd (xs := ([] : List ByteArray)) (inner := []) (ok := fun _ => True) (okp := fun _ => True) ?hr ?hp (fun _ hk => hk) trivial (Below.refl _ _) (Nat.le_refl _) (by simp) ?_; (case hd => rfl); (case hg => rfl); (case hr => first | (go_simp; done) | (go_simp; rfl)); (case hp => exact Reps.none _ _)
        intro v60 w60 ho hb hg_ hnew_
        clear hg_ hnew_
        have H60 := Aside0.mk (Kd.R_mono (Kd.R_lower (Kd.R_new' ho (Kd.R_lt H66.out)) HBr.out.size) (fun _ hk => hk.2))
        replace H66 := Aside0.mk (Kd.R_mono (Kd.R_elder' H66.out (Kd.R_base ho) hb) (fun _ hk => hk.2))
        replace HBr := Aside0.mk (below_step HBr.out hb)
        clear hb ho
        refine hK.out _ _ trivial (fun hHeld => ?_)
        clear hK K
        refine norm_ (a' := ?_) ?_ ?_
        rotate_left
        · show Act.put _ (some 60) _ = _
          simp only [Act.put, s_1, s_2, s_3, i64_w, i32_w]
          rfl
        refine one_ (i := 4) (N := some 64) (bs_ 13 1919) rfl rfl (by kernel_rfl) (by decide) (fun K hK => ?_)
        refine Kd.R_append_rows_step Kd.string (w0 := WB_) WB_.heap.size (by rfl) (.tmp 60) (.tmp 63) 24 9 (.string ⟨#[]⟩) 16 rfl Try.underlying24 info9 rfl (by decide) (by omega) v60 [] XT_ _ _ _ (fun k_ => some k_ ≠ (v66 : Value).ownBlock) (fun _ => False) rfl rfl ?aO ?aR (fun _ _ h => h) (fun _ h => h.elim) ?aF ?aB ?aS ?aL ?_
        (case aR => exact (Kd.C_below HCT.out HBr.out))
        (case aB => exact HBr.out)
        (case aF => exact (fun k_ hk => Kd.fresh' (Kd.R_lt H66.out) k_ hk))
        (case aO => exact H60.out)
        (case aS => exact HBr.out.size)
        (case aL => have := LMK.out; have := LMT.out; simp only [List.length_nil]; omega)
        intro v64 w64 ho hb hg hat
        replace ho : Kd.R Kd.string 9 w64 WB_.heap.size (fun k_ => some k_ ≠ (v66 : Value).ownBlock) v64 XT_ := ho
        replace H66 := Aside0.mk (Kd.R_mono (Kd.R_after (ok := fun _ => True) (Kd.R_mono H66.out (fun _ hk => ⟨trivial, hk⟩)) hg hat) (fun _ hk => hk.2))
        have H64 := Aside0.mk ho
        clear H60
        replace HBr := Aside0.mk hb
        clear ho hb hg hat
        refine hK.out _ _ trivial (fun hHeld => ?_)
        clear hK K
        refine norm_ (a' := ?_) ?_ ?_
        rotate_left
        · show Act.put _ (some 64) _ = _
          simp only [Act.put, s_1, s_2, s_3, i64_w, i32_w]
          rfl
        exact norm_ (by simp only [putAll, Act.put, s_1, s_2, s_3]) (hCont (v60, v64, v66) _ ⟨H64.out, H66.out, HBr.out⟩)
      skip
      refine Kd.R_lit_step Kd.string _ 9 ?hg (N := 60) ?hd (xs := ([] : List ByteArray)) (inner := []) (ok := fun _ => True) (okp := fun _ => True) ?hr ?hp (fun _ hk => hk) trivial (Below.refl _ _) (Nat.le_refl _) (by simp) ?_; (case hd => rfl); (case hg => rfl); (case hr => first | (go_simp; done) | (go_simp; rfl)); (case hp => exact Reps.none _ _)
      intro v60 w60 ho hb hg_ hnew_
      clear hg_ hnew_
      have H60 := Aside0.mk (Kd.R_lower ho HBr.out.size)
      replace HBr := Aside0.mk (below_step HBr.out hb)
      clear hb ho
      refine hK.out _ _ trivial (fun hHeld => ?_)
      clear hK K
      refine norm_ (a' := ?_) ?_ ?_
      rotate_left
      · show Act.put _ (some 60) _ = _
        simp only [Act.put, s_1, s_2, s_3, i64_w, i32_w]
        rfl
      refine two_ (i := 4) (j := 6) (Ni := some 64) (Nj := some 66) (bs_ 13 1855) (bs_ 13 1903) rfl rfl rfl rfl (by kernel_rfl) (by decide) (by decide) (fun K hK => ?_) (fun K hK => ?_)
      · skip
        refine Kd.R_append_rows_step Kd.string (w0 := WB_) WB_.heap.size (by rfl) (.tmp 60) (.tmp 63) 24 9 (.string ⟨#[]⟩) 16 rfl Try.underlying24 info9 rfl (by decide) (by omega) v60 [] XT_ _ _ _ (fun _ => True) (fun _ => False) rfl rfl ?aO ?aR (fun _ _ h => h) (fun _ h => h.elim) ?aF ?aB ?aS ?aL ?_
        (case aR => exact (Kd.C_below HCT.out HBr.out))
        (case aB => exact HBr.out)
        (case aF => exact (fun _ _ => trivial))
        (case aO => exact H60.out)
        (case aS => exact HBr.out.size)
        (case aL => have := LMK.out; have := LMT.out; simp only [List.length_nil]; omega)
        intro v64 w64 ho hb hg hat
        replace ho : Kd.R Kd.string 9 w64 WB_.heap.size (fun _ => True) v64 XT_ := ho
        have H64 := Aside0.mk ho
        clear H60
        replace HBr := Aside0.mk hb
        clear ho hb hg hat
        refine hK.out _ _ trivial (fun hHeld => ?_)
        clear hK K
        refine norm_ (a' := ?_) ?_ ?_
        rotate_left
        · show Act.put _ (some 64) _ = _
          simp only [Act.put, s_1, s_2, s_3, i64_w, i32_w]
          rfl
        refine one_ (i := 6) (N := some 66) (bs_ 13 1919) rfl rfl (by kernel_rfl) (by decide) (fun K hK => ?_)
        refine Kd.R_lit_step Kd.string _ 9 ?hg (N := 66) ?hd (xs := ([t826] : List ByteArray)) (inner := [.string t826]) (ok := fun _ => True) (okp := fun _ => True) ?hr ?hp (fun _ hk => hk) trivial (Below.refl _ _) (Nat.le_refl _) (by simp) ?_; (case hd => rfl); (case hg => rfl); (case hr => first | (go_simp; done) | (go_simp; rfl)); (case hp => exact (Reps.one (show Kd.M Kd.string _ _ _ t826 [.string t826] from rfl) (Reps.none _ _)))
        intro v66 w66 ho hb hg_ hnew_
        clear hg_ hnew_
        have H66 := Aside0.mk (Kd.R_mono (Kd.R_lower (Kd.R_new' ho (Kd.R_lt H64.out)) HBr.out.size) (fun _ hk => hk.2))
        replace H64 := Aside0.mk (Kd.R_mono (Kd.R_elder' H64.out (Kd.R_base ho) hb) (fun _ hk => hk.2))
        replace HBr := Aside0.mk (below_step HBr.out hb)
        clear hb ho
        refine hK.out _ _ trivial (fun hHeld => ?_)
        clear hK K
        refine norm_ (a' := ?_) ?_ ?_
        rotate_left
        · show Act.put _ (some 66) _ = _
          simp only [Act.put, s_1, s_2, s_3, i64_w, i32_w]
          rfl
        exact norm_ (by simp only [putAll, Act.put, s_1, s_2, s_3]) (hCont (v60, v64, v66) _ ⟨H64.out, H66.out, HBr.out⟩)
      skip
      refine Kd.R_lit_step Kd.string _ 9 ?hg (N := 66) ?hd (xs := ([t826] : List ByteArray)) (inner := [.string t826]) (ok := fun _ => True) (okp := fun _ => True) ?hr ?hp (fun _ hk => hk) trivial (Below.refl _ _) (Nat.le_refl _) (by simp) ?_; (case hd => rfl); (case hg => rfl); (case hr => first | (go_simp; done) | (go_simp; rfl)); (case hp => exact (Reps.one (show Kd.M Kd.string _ _ _ t826 [.string t826] from rfl) (Reps.none _ _)))
      intro v66 w66 ho hb hg_ hnew_
      clear hg_ hnew_
      have H66 := Aside0.mk (Kd.R_mono (Kd.R_lower (Kd.R_new' ho (Kd.R_lt H60.out)) HBr.out.size) (fun _ hk => hk.2))
      replace H60 := Aside0.mk (Kd.R_mono (Kd.R_elder' H60.out (Kd.R_base ho) hb) (fun _ hk => hk.2))
      replace HBr := Aside0.mk (below_step HBr.out hb)
      clear hb ho
      refine hK.out _ _ trivial (fun hHeld => ?_)
      clear hK K
      refine norm_ (a' := ?_) ?_ ?_
      rotate_left
      · show Act.put _ (some 66) _ = _
        simp only [Act.put, s_1, s_2, s_3, i64_w, i32_w]
        rfl
      refine one_ (i := 4) (N := some 64) (bs_ 13 1919) rfl rfl (by kernel_rfl) (by decide) (fun K hK => ?_)
      refine Kd.R_append_rows_step Kd.string (w0 := WB_) WB_.heap.size (by rfl) (.tmp 60) (.tmp 63) 24 9 (.string ⟨#[]⟩) 16 rfl Try.underlying24 info9 rfl (by decide) (by omega) v60 [] XT_ _ _ _ (fun k_ => some k_ ≠ (v66 : Value).ownBlock) (fun _ => False) rfl rfl ?aO ?aR (fun _ _ h => h) (fun _ h => h.elim) ?aF ?aB ?aS ?aL ?_
      (case aR => exact (Kd.C_below HCT.out HBr.out))
      (case aB => exact HBr.out)
      (case aF => exact (fun k_ hk => Kd.fresh' (Kd.R_lt H66.out) k_ hk))
      (case aO => exact H60.out)
      (case aS => exact HBr.out.size)
      (case aL => have := LMK.out; have := LMT.out; simp only [List.length_nil]; omega)
      intro v64 w64 ho hb hg hat
      replace ho : Kd.R Kd.string 9 w64 WB_.heap.size (fun k_ => some k_ ≠ (v66 : Value).ownBlock) v64 XT_ := ho
      replace H66 := Aside0.mk (Kd.R_mono (Kd.R_after (ok := fun _ => True) (Kd.R_mono H66.out (fun _ hk => ⟨trivial, hk⟩)) hg hat) (fun _ hk => hk.2))
      have H64 := Aside0.mk ho
      clear H60
      replace HBr := Aside0.mk hb
      clear ho hb hg hat
      refine hK.out _ _ trivial (fun hHeld => ?_)
      clear hK K
      refine norm_ (a' := ?_) ?_ ?_
      rotate_left
      · show Act.put _ (some 64) _ = _
        simp only [Act.put, s_1, s_2, s_3, i64_w, i32_w]
        rfl
      exact norm_ (by simp only [putAll, Act.put, s_1, s_2, s_3]) (hCont (v60, v64, v66) _ ⟨H64.out, H66.out, HBr.out⟩)
    rintro ⟨v60, v64, v66⟩ w66 ⟨h0_, h1_, h2_⟩
    have H64 := Aside0.mk h0_
    have H66 := Aside0.mk h1_
    replace HBr := Aside0.mk h2_
    clear h0_ h1_ h2_
    have hHeld := trivial
    obtain ⟨A66, c66, e66⟩ := Kd.R_slice H66.out
    subst e66
    refine norm_ (a' := ?_) ?_ ?_
    rotate_left
    · simp only [putAll, Act.put, s_1, s_2, s_3]
      rfl
    refine one_ (i := 7) (N := some 67) (bs_ 13 2047) rfl rfl (by kernel_rfl) (by decide) (fun K hK => ?_)
    refine Kd.R_append_rows_step Kd.string (w0 := WB_) WB_.heap.size (by rfl) (.tmp 64) (.tmp 66) 24 9 (.string ⟨#[]⟩) 16 rfl Try.underlying24 info9 rfl (by decide) (by omega) v64 XT_ [t826] _ _ _ (fun k_ => some k_ ≠ (.slice A66 [t826].length c66 : Value).ownBlock) (fun _ => False) rfl rfl ?aO ?aR (fun _ _ h => h) (fun _ h => h.elim) ?aF ?aB ?aS ?aL ?_
    (case aR => exact ((Kd.R_reads' H66.out).2.2))
    (case aB => exact HBr.out)
    (case aF => exact (fun k_ hk => Kd.fresh' (Kd.R_lt H66.out) k_ hk))
    (case aO => exact H64.out)
    (case aS => exact HBr.out.size)
    (case aL => have := LMK.out; have := LMT.out; simp only [List.length_cons, List.length_nil]; omega)
    intro v67 w67 ho hb hg hat
    have H67 := Aside0.mk (Kd.R_mono (ok' := fun _ => True) ho (fun _ _ => trivial))
    replace HBr := Aside0.mk hb
    clear ho hb hg hat H64 H66
    refine hK.out _ _ trivial (fun hHeld => ?_)
    clear hK K
    refine norm_ (a' := ?_) ?_ ?_
    rotate_left
    · show Act.put _ (some 67) _ = _
      simp only [Act.put, s_1, s_2, s_3, i64_w, i32_w]
      rfl
    refine one_ (i := 11) (N := some 71) (bs_ 13 4095) rfl rfl (by kernel_rfl) (by decide) (fun K hK => ?_)
    refine Kd.R_append_rows_step Kd.string (w0 := WB_) WB_.heap.size (by rfl) (.tmp 67) (.tmp 70) 24 9 (.string ⟨#[]⟩) 16 rfl Try.underlying24 info9 rfl (by decide) (by omega) v67 (XT_ ++ [t826]) XD_ _ _ _ (fun _ => True) (fun _ => False) rfl rfl ?aO ?aR (fun _ _ h => h) (fun _ h => h.elim) ?aF ?aB ?aS ?aL ?_
    (case aR => exact (Kd.C_below HCD.out HBr.out))
    (case aB => exact HBr.out)
    (case aF => exact (fun _ _ => trivial))
    (case aO => exact H67.out)
    (case aS => exact HBr.out.size)
    (case aL => have := LMK.out; have := LMT.out; have := LMD.out; simp only [List.length_append, List.length_cons, List.length_nil]; omega)
    intro v71 w71 ho hb hg hat
    have H71 := Aside0.mk ho
    replace HBr := Aside0.mk hb
    clear ho hb hg hat H67
    refine hK.out _ _ trivial (fun hHeld => ?_)
    clear hK K
    refine norm_ (a' := ?_) ?_ ?_
    rotate_left
    · show Act.put _ (some 71) _ = _
      simp only [Act.put, s_1, s_2, s_3, i64_w, i32_w]
      rfl
    refine pure_ (i := 12) (N := some 6) (v := ?_) (a' := ?_) (bs_ 13 8191) rfl rfl (by kernel_rfl) (fun _ _ _ h => h) (Or.inl ⟨by rfl, ?_⟩) ?_ ?_
    rotate_left
    · intro w'
      go_simp
      with_reducible rfl
    rotate_left
    · simp only [Act.put, s_1, s_2, s_3, i64_w, i32_w]
      rfl
    refine done_ (by kernel_rfl) ?_
    have n0_ := Aside0.mk (Kd.R_lower H71.out (below_size HB.out))
    replace HO_22 := Aside0.mk (Kd.R_below HO_22.out HBr.out)
    replace BK820 := Aside0.mk (blk_below (g := gb820) (o := .cells #[.int .i64 a0_0, .int .i64 a0_1] 28 (0, 0)) BK820.out HBr.out)
    replace HB := Aside0.mk (below_step HB.out HBr.out)
    have hy_ : (XT_ ++ [t826]) ++ XD_ = y844 := by rw [Ny844.out, Ny841.out, NXT.out, NXD.out]
    rw [hy_] at n0_
    clear hy_ H71 HBr HCT HCD
    have HO846 := n0_
    clear n0_
    try go_wp2
    go_roundg k3
    case measure => have := HK1.out; have := HK2.out; have := HK3.out; omega
    case rel => refine ⟨(y844), (wrap64 (x24_2 + 1)), (by first | rfl | (simp; done) | (simp [*]; done)), H', ⟨by have := HK1.out; have := HK2.out; have := HK3.out; omega⟩, ⟨?_⟩, ⟨?_⟩, ⟨?_⟩, ⟨bB HB⟩⟩ <;> (with_reducible repeat (first | refine g_d ?_ _ | refine g_e ?_ | refine g_a ?_ _ | apply r_a | apply r_d | apply r_e)) <;> first | exact BK820.out | exact HO846.out | exact HO_22.out
  rw [if_pos c19] at H
  have c19b0 : decide (x11_3 < (x6_2.length : Int)) = true := decide_eq_true c19
  clear c19
  by_cases c20 : 0 ≤ x11_3
  rotate_left
  · rw [if_neg c20] at H
    exact absurd H (by simp)
  rw [if_pos c20] at H
  have c20b0 : decide (0 ≤ x11_3) = true := decide_eq_true c20
  clear c20
  by_cases c21 : (Op.bytesLess ((rdOf ByteArray.empty x6_2 x11_3).toList) t826.toList) = true
  · rw [if_pos c21] at H
    have c21b0 : (Op.bytesLess ((rdOf ByteArray.empty x6_2 x11_3).toList) t826.toList) = true := c21
    clear c21
    have H' := Aside0.mk H
    clear H
    obtain ⟨Ao22, co22, eo22⟩ := Kd.R_slice HO_6.out
    subst eo22
    have p827 : 0 ≤ (x11_3 : Int) := of_decide_eq_true (by first | (with_reducible assumption) | assumption)
    have q827 : x11_3 < (x6_2.length : Int) := of_decide_eq_true (by first | (with_reducible assumption) | assumption)
    obtain ⟨ad827, e827, hx827_0⟩ := Kd.at_string (Kd.R_reads' HO_6.out).2.2 x11_3 p827 q827
    cases e827
    replace p827 := eq_true p827
    replace q827 := eq_true q827
    go_wp2
    go_roundg k3
    case measure => have := HK1.out; have := HK2.out; have := HK3.out; omega
    case rel => refine ⟨(wrap64 (x11_3 + 1)), (by first | rfl | (simp; done) | (simp [*]; done)), H', ⟨by have := HK1.out; have := HK2.out; have := HK3.out; omega⟩, ⟨?_⟩, ⟨?_⟩, ⟨?_⟩, ⟨bB HB⟩⟩ <;> (with_reducible repeat (first | refine g_d ?_ _ | refine g_e ?_ | refine g_a ?_ _ | apply r_a | apply r_d | apply r_e)) <;> first | exact BK820.out | exact HO_6.out | exact HO_22.out
  rw [if_neg c21] at H
  have c21b0 : (Op.bytesLess ((rdOf ByteArray.empty x6_2 x11_3).toList) t826.toList) = false := by simpa using c21
  clear c21
  by_cases c23 : x11_3 = (x6_2.length : Int)
  · rw [if_pos c23] at H
    have c23b0 : (x11_3 == (x6_2.length : Int)) = true := beq_iff_eq.mpr c23
    have c23b1 : (x11_3 != (x6_2.length : Int)) = false := bne_eq_false_iff_eq.mpr c23
    clear c23
    by_cases c24 : x11_3 ≤ (x6_2.length : Int)
    · rw [if_pos c24] at H
      have c24b0 := eq_true c24
      have c24b1 : decide (x11_3 ≤ (x6_2.length : Int)) = true := decide_eq_true c24
      clear c24
      obtain ⟨y828, hy828⟩ : ∃ y_ : List ByteArray, y_ = (x6_2.take (x11_3 : Int).toNat) := ⟨_, rfl⟩
      replace H : (if x6_2.length < 8796093022000 then (spec_NextCodes.l1 k3 a1 ((y828 ++ [t826]) ++ x6_2.drop (x11_3 : Int).toNat) x7_1 y822 (y822.length : Int) (wrap64 (x24_2 + 1)) a0_0 a0_1) else (none)) = some (r1, r2) := by first | (rw [hy828]; with_reducible exact H) | (have H2_ := (Option.bind_some _ _).symm.trans H; rw [hy828]; with_reducible exact H2_) | (have H2_ := (Option.bind_some _ _).symm.trans H; with_reducible exact H2_) | with_reducible exact H | (rw [hy828]; exact H) | exact H
      have Ny828 := Aside0.mk hy828
      clear hy828
      by_cases c25 : x6_2.length < 8796093022000
      · rw [if_pos c25] at H
        have LMc25 := Aside0.mk c25
        clear c25
        obtain ⟨y831, hy831⟩ : ∃ y_ : List ByteArray, y_ = ((y828 ++ [t826]) ++ x6_2.drop (x11_3 : Int).toNat) := ⟨_, rfl⟩
        replace H : (spec_NextCodes.l1 k3 a1 y831 x7_1 y822 (y822.length : Int) (wrap64 (x24_2 + 1)) a0_0 a0_1) = some (r1, r2) := by first | (rw [hy831]; with_reducible exact H) | (have H2_ := (Option.bind_some _ _).symm.trans H; rw [hy831]; with_reducible exact H2_) | (have H2_ := (Option.bind_some _ _).symm.trans H; with_reducible exact H2_) | with_reducible exact H | (rw [hy831]; exact H) | exact H
        have Ny831 := Aside0.mk hy831
        clear hy831
        have H' := Aside0.mk H
        clear H
        obtain ⟨Ao26, co26, eo26⟩ := Kd.R_slice HO_6.out
        subst eo26
        have p827 : 0 ≤ (x11_3 : Int) := of_decide_eq_true (by first | (with_reducible assumption) | assumption)
        have q827 : x11_3 < (x6_2.length : Int) := of_decide_eq_true (by first | (with_reducible assumption) | assumption)
        obtain ⟨ad827, e827, hx827_0⟩ := Kd.at_string (Kd.R_reads' HO_6.out).2.2 x11_3 p827 q827
        cases e827
        replace p827 := eq_true p827
        replace q827 := eq_true q827
        try go_wp2
        have n0_ := Aside0.mk (r_e HO_6.out)
        have n1_ := Aside0.mk (r_e HO_22.out)
        have n2_ := Aside0.mk (g_e BK820.out)
        have n3_ := Aside0.mk (b_e HB.out)
        clear HO_6
        clear HO_22
        clear BK820
        clear HB
        have HO_6 := n0_
        have HO_22 := n1_
        have BK820 := n2_
        have HB := n3_
        clear n0_ n1_ n2_ n3_
        have q28 : (x11_3 : Int) ≤ ((x6_2.length : Int) : Int) := of_decide_eq_true (by first | (with_reducible assumption) | assumption)
        obtain ⟨i028, hi028, _, hsz28, _⟩ := info_parts info9
        have h0q := (of_decide_eq_true (by first | (with_reducible assumption) | assumption) : 0 ≤ (x11_3 : Int))
        have hcut28 := cut_to (P := Try.prog) 24 9 .i64 Try.underlying24 hi028 (some ad827) x6_2.length co26 x11_3 (of_decide_eq_true (by first | (with_reducible assumption) | assumption)) q28 (Kd.R_reads' HO_6.out).2.1
        have hcutD28 := cut_from (P := Try.prog) 24 9 .i64 Try.underlying24 hi028 1 hsz28 (some ad827) x6_2.length co26 x11_3 h0q q28
        obtain ⟨XT_, hXT⟩ : ∃ y_ : List ByteArray, y_ = x6_2.take (x11_3 : Int).toNat := ⟨_, rfl⟩
        obtain ⟨XD_, hXD⟩ : ∃ y_ : List ByteArray, y_ = x6_2.drop (x11_3 : Int).toNat := ⟨_, rfl⟩
        have lT : XT_.length = (x11_3 : Int).toNat := by rw [hXT, m_5]; omega
        have lD : XD_.length = x6_2.length - (x11_3 : Int).toNat := by rw [hXD, m_4]
        have hCT := Kd.C_take (m := (x11_3 : Int).toNat) (Kd.R_reads' HO_6.out).2.2 (by omega)
        have hCD := Kd.C_drop (c := co26) (m := (x11_3 : Int).toNat) (Kd.R_reads' HO_6.out).2.2 (by omega) (Kd.R_reads' HO_6.out).2.1
        rw [← hXT] at hCT
        rw [← hXD] at hCD
        simp only [show Kd.string.sz = 1 from rfl, Nat.mul_one] at hCD
        simp only [Nat.mul_one] at hcutD28
        generalize hAD : (if co26 = (x11_3 : Int).toNat then (some ad827) else Option.map (fun x => x.add (x11_3 : Int).toNat) (some ad827)) = AD_ at hcutD28 hCD
        clear hAD
        rw [← lT] at hcut28
        rw [← lD] at hcutD28
        have HCT := Aside0.mk hCT
        have HCD := Aside0.mk hCD
        have NXT := Aside0.mk hXT
        have NXD := Aside0.mk hXD
        have LMT := Aside0.mk lT
        have LMD := Aside0.mk lD
        have LMK := Aside0.mk (And.intro LMc25.out (show (x11_3 : Int).toNat ≤ x6_2.length by omega))
        clear hCT hCD hXT hXD lT lD h0q hi028 hsz28 HO_6
        replace q28 := eq_true q28
        have HBr := Aside0.mk (Below.refl wr.drew.heap.size wr.drew)
        refine start_ (n := 13) (S := fun w' => True) (ds := []) (bs_ 13 0) (by kernel_rfl) rfl rfl trivial (fun hHeld => ?_)
        generalize wr.drew = WB_ at HO_22 BK820 HB HCT HCD HBr hHeld ⊢
        refine pure_ (i := 1) (N := some 61) (v := ?_) (a' := ?_) (bs_ 13 2) rfl rfl (by kernel_rfl) (fun _ _ _ h => h) (Or.inl ⟨by rfl, ?_⟩) ?_ ?_
        rotate_left
        · intro w'
          go_simp
          with_reducible rfl
        rotate_left
        · simp only [Act.put, s_1, s_2, s_3, i64_w, i32_w]
          rfl
        refine pure_ (i := 2) (N := some 62) (v := ?_) (a' := ?_) (bs_ 13 6) rfl rfl (by kernel_rfl) (fun _ _ _ h => h) (Or.inl ⟨by rfl, ?_⟩) ?_ ?_
        rotate_left
        · intro w'
          go_simp
          with_reducible rfl
        rotate_left
        · simp only [Act.put, s_1, s_2, s_3, i64_w, i32_w]
          rfl
        refine pure_ (i := 3) (N := some 63) (v := ?_) (a' := ?_) (bs_ 13 14) rfl rfl (by kernel_rfl) (fun _ _ _ h => h) (Or.inl ⟨by rfl, ?_⟩) ?_ ?_
        rotate_left
        · intro w'
          go_simp
          with_reducible rfl
        rotate_left
        · simp only [Act.put, s_1, s_2, s_3, i64_w, i32_w]
          rfl
        refine pure_ (i := 5) (N := some 65) (v := ?_) (a' := ?_) (bs_ 13 46) rfl rfl (by kernel_rfl) (fun _ _ _ h => h) (Or.inl ⟨by rfl, ?_⟩) ?_ ?_
        rotate_left
        · intro w'
          go_simp
          with_reducible rfl
        rotate_left
        · simp only [Act.put, s_1, s_2, s_3, i64_w, i32_w]
          rfl
        refine pure_ (i := 8) (N := some 68) (v := ?_) (a' := ?_) (bs_ 13 302) rfl rfl (by kernel_rfl) (fun _ _ _ h => h) (Or.inl ⟨by rfl, ?_⟩) ?_ ?_
        rotate_left
        · intro w'
          go_simp
          with_reducible rfl
        rotate_left
        · simp only [Act.put, s_1, s_2, s_3, i64_w, i32_w]
          rfl
        refine pure_ (i := 9) (N := some 69) (v := ?_) (a' := ?_) (bs_ 13 814) rfl rfl (by kernel_rfl) (fun _ _ _ h => h) (Or.inl ⟨by rfl, ?_⟩) ?_ ?_
        rotate_left
        · intro w'
          go_simp
          with_reducible rfl
        rotate_left
        · simp only [Act.put, s_1, s_2, s_3, i64_w, i32_w]
          rfl
        refine pure_ (i := 10) (N := some 70) (v := ?_) (a' := ?_) (bs_ 13 1838) rfl rfl (by kernel_rfl) (fun _ _ _ h => h) (Or.inl ⟨by rfl, ?_⟩) ?_ ?_
        rotate_left
        · intro w'
          go_simp
          with_reducible rfl
        rotate_left
        · simp only [Act.put, s_1, s_2, s_3, i64_w, i32_w]
          rfl
        refine join_ (σ := Value × Value × Value) 3 (bs_ 13 1919) (fun s => [(60, s.1), (64, s.2.1), (66, s.2.2)]) (fun s w' => Kd.R Kd.string 9 w' WB_.heap.size (fun k_ => some k_ ≠ s.2.2.ownBlock) s.2.1 XT_ ∧ Kd.R Kd.string 9 w' WB_.heap.size (fun k_ => some k_ ≠ s.2.1.ownBlock) s.2.2 [t826] ∧ Below WB_.heap.size WB_ w') ?_ ?_
        rotate_left
        · intro hCont
          refine two_ (i := 0) (j := 6) (Ni := some 60) (Nj := some 66) (bs_ 13 1839) (bs_ 13 1902) rfl rfl rfl rfl (by kernel_rfl) (by decide) (by decide) (fun K hK => ?_) (fun K hK => ?_)
          · skip
            refine Kd.R_lit_step Kd.string _ 9 ?hg (N := 60) ?hd (xs := ([] : List ByteArray)) (inner := []) (ok := fun _ => True) (okp := fun _ => True) ?hr ?hp (fun _ hk => hk) trivial (Below.refl _ _) (Nat.le_refl _) (by simp) ?_; (case hd => rfl); (case hg => rfl); (case hr => first | (go_simp; done) | (go_simp; rfl)); (case hp => exact Reps.none _ _)
            intro v60 w60 ho hb hg_ hnew_
            clear hg_ hnew_
            have H60 := Aside0.mk (Kd.R_lower ho HBr.out.size)
            replace HBr := Aside0.mk (below_step HBr.out hb)
            clear hb ho
            refine hK.out _ _ trivial (fun hHeld => ?_)
            clear hK K
            refine norm_ (a' := ?_) ?_ ?_
            rotate_left
            · show Act.put _ (some 60) _ = _
              simp only [Act.put, s_1, s_2, s_3, i64_w, i32_w]
              rfl
            refine two_ (i := 4) (j := 6) (Ni := some 64) (Nj := some 66) (bs_ 13 1855) (bs_ 13 1903) rfl rfl rfl rfl (by kernel_rfl) (by decide) (by decide) (fun K hK => ?_) (fun K hK => ?_)
            · skip
              refine Kd.R_append_rows_step Kd.string (w0 := WB_) WB_.heap.size (by rfl) (.tmp 60) (.tmp 63) 24 9 (.string ⟨#[]⟩) 16 rfl Try.underlying24 info9 rfl (by decide) (by omega) v60 [] XT_ _ _ _ (fun _ => True) (fun _ => False) rfl rfl ?aO ?aR (fun _ _ h => h) (fun _ h => h.elim) ?aF ?aB ?aS ?aL ?_
              (case aR => exact (Kd.C_below HCT.out HBr.out))
              (case aB => exact HBr.out)
              (case aF => exact (fun _ _ => trivial))
              (case aO => exact H60.out)
              (case aS => exact HBr.out.size)
              (case aL => have := LMK.out; have := LMT.out; simp only [List.length_nil]; omega)
              intro v64 w64 ho hb hg hat
              replace ho : Kd.R Kd.string 9 w64 WB_.heap.size (fun _ => True) v64 XT_ := ho
              have H64 := Aside0.mk ho
              clear H60
              replace HBr := Aside0.mk hb
              clear ho hb hg hat
              refine hK.out _ _ trivial (fun hHeld => ?_)
              clear hK K
              refine norm_ (a' := ?_) ?_ ?_
              rotate_left
              · show Act.put _ (some 64) _ = _
                simp only [Act.put, s_1, s_2, s_3, i64_w, i32_w]
                rfl
              refine one_ (i := 6) (N := some 66) (bs_ 13 1919) rfl rfl (by kernel_rfl) (by decide) (fun K hK => ?_)
              refine Kd.R_lit_step Kd.string _ 9 ?hg (N := 66) ?hd (xs := ([t826] : List ByteArray)) (inner := [.string t826]) (ok := fun _ => True) (okp := fun _ => True) ?hr ?hp (fun _ hk => hk) trivial (Below.refl _ _) (Nat.le_refl _) (by simp) ?_; (case hd => rfl); (case hg => rfl); (case hr => first | (go_simp; done) | (go_simp; rfl)); (case hp => exact (Reps.one (show Kd.M Kd.string _ _ _ t826 [.string t826] from rfl) (Reps.none _ _)))
              intro v66 w66 ho hb hg_ hnew_
              clear hg_ hnew_
              have H66 := Aside0.mk (Kd.R_mono (Kd.R_lower (Kd.R_new' ho (Kd.R_lt H64.out)) HBr.out.size) (fun _ hk => hk.2))
              replace H64 := Aside0.mk (Kd.R_mono (Kd.R_elder' H64.out (Kd.R_base ho) hb) (fun _ hk => hk.2))
              replace HBr := Aside0.mk (below_step HBr.out hb)
              clear hb ho
              refine hK.out _ _ trivial (fun hHeld => ?_)
              clear hK K
              refine norm_ (a' := ?_) ?_ ?_
              rotate_left
              · show Act.put _ (some 66) _ = _
                simp only [Act.put, s_1, s_2, s_3, i64_w, i32_w]
                rfl
              exact norm_ (by simp only [putAll, Act.put, s_1, s_2, s_3]) (hCont (v60, v64, v66) _ ⟨H64.out, H66.out, HBr.out⟩)
            · skip
              refine Kd.R_lit_step Kd.string _ 9 ?hg (N := 66) ?hd (xs := ([t826] : List ByteArray)) (inner := [.string t826]) (ok := fun _ => True) (okp := fun _ => True) ?hr ?hp (fun _ hk => hk) trivial (Below.refl _ _) (Nat.le_refl _) (by simp) ?_; (case hd => rfl); (case hg => rfl); (case hr => first | (go_simp; done) | (go_simp; rfl)); (case hp => exact (Reps.one (show Kd.M Kd.string _ _ _ t826 [.string t826] from rfl) (Reps.none _ _)))
              intro v66 w66 ho hb hg_ hnew_
              clear hg_ hnew_
              have H66 := Aside0.mk (Kd.R_mono (Kd.R_lower (Kd.R_new' ho (Kd.R_lt H60.out)) HBr.out.size) (fun _ hk => hk.2))
              replace H60 := Aside0.mk (Kd.R_mono (Kd.R_elder' H60.out (Kd.R_base ho) hb) (fun _ hk => hk.2))
              replace HBr := Aside0.mk (below_step HBr.out hb)
              clear hb ho
              refine hK.out _ _ trivial (fun hHeld => ?_)
              clear hK K
              refine norm_ (a' := ?_) ?_ ?_
              rotate_left
              · show Act.put _ (some 66) _ = _
                simp only [Act.put, s_1, s_2, s_3, i64_w, i32_w]
                rfl
              refine one_ (i := 4) (N := some 64) (bs_ 13 1919) rfl rfl (by kernel_rfl) (by decide) (fun K hK => ?_)
              refine Kd.R_append_rows_step Kd.string (w0 := WB_) WB_.heap.size (by rfl) (.tmp 60) (.tmp 63) 24 9 (.string ⟨#[]⟩) 16 rfl Try.underlying24 info9 rfl (by decide) (by omega) v60 [] XT_ _ _ _ (fun k_ => some k_ ≠ (v66 : Value).ownBlock) (fun _ => False) rfl rfl ?aO ?aR (fun _ _ h => h) (fun _ h => h.elim) ?aF ?aB ?aS ?aL ?_
              (case aR => exact (Kd.C_below HCT.out HBr.out))
              (case aB => exact HBr.out)
              (case aF => exact (fun k_ hk => Kd.fresh' (Kd.R_lt H66.out) k_ hk))
              (case aO => exact H60.out)
              (case aS => exact HBr.out.size)
              (case aL => have := LMK.out; have := LMT.out; simp only [List.length_nil]; omega)
              intro v64 w64 ho hb hg hat
              replace ho : Kd.R Kd.string 9 w64 WB_.heap.size (fun k_ => some k_ ≠ (v66 : Value).ownBlock) v64 XT_ := ho
              replace H66 := Aside0.mk (Kd.R_mono (Kd.R_after (ok := fun _ => True) (Kd.R_mono H66.out (fun _ hk => ⟨trivial, hk⟩)) hg hat) (fun _ hk => hk.2))
              have H64 := Aside0.mk ho
              clear H60
              replace HBr := Aside0.mk hb
              clear ho hb hg hat
              refine hK.out _ _ trivial (fun hHeld => ?_)
              clear hK K
              refine norm_ (a' := ?_) ?_ ?_
              rotate_left
              · show Act.put _ (some 64) _ = _
                simp only [Act.put, s_1, s_2, s_3, i64_w, i32_w]
                rfl
              exact norm_ (by simp only [putAll, Act.put, s_1, s_2, s_3]) (hCont (v60, v64, v66) _ ⟨H64.out, H66.out, HBr.out⟩)
          · skip
            refine Kd.R_lit_step Kd.string _ 9 ?hg (N := 66) ?hd (xs := ([t826] : List ByteArray)) (inner := [.string t826]) (ok := fun _ => True) (okp := fun _ => True) ?hr ?hp (fun _ hk => hk) trivial (Below.refl _ _) (Nat.le_refl _) (by simp) ?_; (case hd => rfl); (case hg => rfl); (case hr => first | (go_simp; done) | (go_simp; rfl)); (case hp => exact (Reps.one (show Kd.M Kd.string _ _ _ t826 [.string t826] from rfl) (Reps.none _ _)))
            intro v66 w66 ho hb hg_ hnew_
            clear hg_ hnew_
            have H66 := Aside0.mk (Kd.R_lower ho HBr.out.size)
            replace HBr := Aside0.mk (below_step HBr.out hb)
            clear hb ho
            refine hK.out _ _ trivial (fun hHeld => ?_)
            clear hK K
            refine norm_ (a' := ?_) ?_ ?_
            rotate_left
            · show Act.put _ (some 66) _ = _
              simp only [Act.put, s_1, s_2, s_3, i64_w, i32_w]
              rfl
            refine one_ (i := 0) (N := some 60) (bs_ 13 1903) rfl rfl (by kernel_rfl) (by decide) (fun K hK => ?_)
            refine Kd.R_lit_step Kd.string _ 9 ?hg (N := 60) ?hd (xs := ([] : List ByteArray)) (inner := []) (ok := fun _ => True) (okp := fun _ => True) ?hr ?hp (fun _ hk => hk) trivial (Below.refl _ _) (Nat.le_refl _) (by simp) ?_; (case hd => rfl); (case hg => rfl); (case hr => first | (go_simp; done) | (go_simp; rfl)); (case hp => exact Reps.none _ _)
            intro v60 w60 ho hb hg_ hnew_
            clear hg_ hnew_
            have H60 := Aside0.mk (Kd.R_mono (Kd.R_lower (Kd.R_new' ho (Kd.R_lt H66.out)) HBr.out.size) (fun _ hk => hk.2))
            replace H66 := Aside0.mk (Kd.R_mono (Kd.R_elder' H66.out (Kd.R_base ho) hb) (fun _ hk => hk.2))
            replace HBr := Aside0.mk (below_step HBr.out hb)
            clear hb ho
            refine hK.out _ _ trivial (fun hHeld => ?_)
            clear hK K
            refine norm_ (a' := ?_) ?_ ?_
            rotate_left
            · show Act.put _ (some 60) _ = _
              simp only [Act.put, s_1, s_2, s_3, i64_w, i32_w]
              rfl
            refine one_ (i := 4) (N := some 64) (bs_ 13 1919) rfl rfl (by kernel_rfl) (by decide) (fun K hK => ?_)
            refine Kd.R_append_rows_step Kd.string (w0 := WB_) WB_.heap.size (by rfl) (.tmp 60) (.tmp 63) 24 9 (.string ⟨#[]⟩) 16 rfl Try.underlying24 info9 rfl (by decide) (by omega) v60 [] XT_ _ _ _ (fun k_ => some k_ ≠ (v66 : Value).ownBlock) (fun _ => False) rfl rfl ?aO ?aR (fun _ _ h => h) (fun _ h => h.elim) ?aF ?aB ?aS ?aL ?_
            (case aR => exact (Kd.C_below HCT.out HBr.out))
            (case aB => exact HBr.out)
            (case aF => exact (fun k_ hk => Kd.fresh' (Kd.R_lt H66.out) k_ hk))
            (case aO => exact H60.out)
            (case aS => exact HBr.out.size)
            (case aL => have := LMK.out; have := LMT.out; simp only [List.length_nil]; omega)
            intro v64 w64 ho hb hg hat
            replace ho : Kd.R Kd.string 9 w64 WB_.heap.size (fun k_ => some k_ ≠ (v66 : Value).ownBlock) v64 XT_ := ho
            replace H66 := Aside0.mk (Kd.R_mono (Kd.R_after (ok := fun _ => True) (Kd.R_mono H66.out (fun _ hk => ⟨trivial, hk⟩)) hg hat) (fun _ hk => hk.2))
            have H64 := Aside0.mk ho
            clear H60
            replace HBr := Aside0.mk hb
            clear ho hb hg hat
            refine hK.out _ _ trivial (fun hHeld => ?_)
            clear hK K
            refine norm_ (a' := ?_) ?_ ?_
            rotate_left
            · show Act.put _ (some 64) _ = _
              simp only [Act.put, s_1, s_2, s_3, i64_w, i32_w]
              rfl
            exact norm_ (by simp only [putAll, Act.put, s_1, s_2, s_3]) (hCont (v60, v64, v66) _ ⟨H64.out, H66.out, HBr.out⟩)
        rintro ⟨v60, v64, v66⟩ w66 ⟨h0_, h1_, h2_⟩
        have H64 := Aside0.mk h0_
        have H66 := Aside0.mk h1_
        replace HBr := Aside0.mk h2_
        clear h0_ h1_ h2_
        have hHeld := trivial
        obtain ⟨A66, c66, e66⟩ := Kd.R_slice H66.out
        subst e66
        refine norm_ (a' := ?_) ?_ ?_
        rotate_left
        · simp only [putAll, Act.put, s_1, s_2, s_3]
          rfl
        refine one_ (i := 7) (N := some 67) (bs_ 13 2047) rfl rfl (by kernel_rfl) (by decide) (fun K hK => ?_)
        refine Kd.R_append_rows_step Kd.string (w0 := WB_) WB_.heap.size (by rfl) (.tmp 64) (.tmp 66) 24 9 (.string ⟨#[]⟩) 16 rfl Try.underlying24 info9 rfl (by decide) (by omega) v64 XT_ [t826] _ _ _ (fun k_ => some k_ ≠ (.slice A66 [t826].length c66 : Value).ownBlock) (fun _ => False) rfl rfl ?aO ?aR (fun _ _ h => h) (fun _ h => h.elim) ?aF ?aB ?aS ?aL ?_
        (case aR => exact ((Kd.R_reads' H66.out).2.2))
        (case aB => exact HBr.out)
        (case aF => exact (fun k_ hk => Kd.fresh' (Kd.R_lt H66.out) k_ hk))
        (case aO => exact H64.out)
        (case aS => exact HBr.out.size)
        (case aL => have := LMK.out; have := LMT.out; simp only [List.length_cons, List.length_nil]; omega)
        intro v67 w67 ho hb hg hat
        have H67 := Aside0.mk (Kd.R_mono (ok' := fun _ => True) ho (fun _ _ => trivial))
        replace HBr := Aside0.mk hb
        clear ho hb hg hat H64 H66
        refine hK.out _ _ trivial (fun hHeld => ?_)
        clear hK K
        refine norm_ (a' := ?_) ?_ ?_
        rotate_left
        · show Act.put _ (some 67) _ = _
          simp only [Act.put, s_1, s_2, s_3, i64_w, i32_w]
          rfl
        refine one_ (i := 11) (N := some 71) (bs_ 13 4095) rfl rfl (by kernel_rfl) (by decide) (fun K hK => ?_)
        refine Kd.R_append_rows_step Kd.string (w0 := WB_) WB_.heap.size (by rfl) (.tmp 67) (.tmp 70) 24 9 (.string ⟨#[]⟩) 16 rfl Try.underlying24 info9 rfl (by decide) (by omega) v67 (XT_ ++ [t826]) XD_ _ _ _ (fun _ => True) (fun _ => False) rfl rfl ?aO ?aR (fun _ _ h => h) (fun _ h => h.elim) ?aF ?aB ?aS ?aL ?_
        (case aR => exact (Kd.C_below HCD.out HBr.out))
        (case aB => exact HBr.out)
        (case aF => exact (fun _ _ => trivial))
        (case aO => exact H67.out)
        (case aS => exact HBr.out.size)
        (case aL => have := LMK.out; have := LMT.out; have := LMD.out; simp only [List.length_append, List.length_cons, List.length_nil]; omega)
        intro v71 w71 ho hb hg hat
        have H71 := Aside0.mk ho
        replace HBr := Aside0.mk hb
        clear ho hb hg hat H67
        refine hK.out _ _ trivial (fun hHeld => ?_)
        clear hK K
        refine norm_ (a' := ?_) ?_ ?_
        rotate_left
        · show Act.put _ (some 71) _ = _
          simp only [Act.put, s_1, s_2, s_3, i64_w, i32_w]
          rfl
        refine pure_ (i := 12) (N := some 6) (v := ?_) (a' := ?_) (bs_ 13 8191) rfl rfl (by kernel_rfl) (fun _ _ _ h => h) (Or.inl ⟨by rfl, ?_⟩) ?_ ?_
        rotate_left
        · intro w'
          go_simp
          with_reducible rfl
        rotate_left
        · simp only [Act.put, s_1, s_2, s_3, i64_w, i32_w]
          rfl
        refine done_ (by kernel_rfl) ?_
        have n0_ := Aside0.mk (Kd.R_lower H71.out (below_size HB.out))
        replace HO_22 := Aside0.mk (Kd.R_below HO_22.out HBr.out)
        replace BK820 := Aside0.mk (blk_below (g := gb820) (o := .cells #[.int .i64 a0_0, .int .i64 a0_1] 28 (0, 0)) BK820.out HBr.out)
        replace HB := Aside0.mk (below_step HB.out HBr.out)
        have hy_ : (XT_ ++ [t826]) ++ XD_ = y831 := by rw [Ny831.out, Ny828.out, NXT.out, NXD.out]
        rw [hy_] at n0_
        clear hy_ H71 HBr HCT HCD
        have HO833 := n0_
        clear n0_
        try go_wp2
        go_roundg k3
        case measure => have := HK1.out; have := HK2.out; have := HK3.out; omega
        case rel => refine ⟨(y831), (wrap64 (x24_2 + 1)), (by first | rfl | (simp; done) | (simp [*]; done)), H', ⟨by have := HK1.out; have := HK2.out; have := HK3.out; omega⟩, ⟨?_⟩, ⟨?_⟩, ⟨?_⟩, ⟨bB HB⟩⟩ <;> (with_reducible repeat (first | refine g_d ?_ _ | refine g_e ?_ | refine g_a ?_ _ | apply r_a | apply r_d | apply r_e)) <;> first | exact BK820.out | exact HO833.out | exact HO_22.out
      · rw [if_neg c25] at H
        exact absurd H (by simp)
    · rw [if_neg c24] at H
      exact absurd H (by simp)
  rw [if_neg c23] at H
  have c23b0 : (x11_3 == (x6_2.length : Int)) = false := beq_eq_false_iff_ne.mpr c23
  have c23b1 : (x11_3 != (x6_2.length : Int)) = true := bne_iff_ne.mpr c23
  by_cases c30 : (rdOf ByteArray.empty x6_2 x11_3).toList = t826.toList
  · rw [if_pos c30] at H
    have c30b0 : ((rdOf ByteArray.empty x6_2 x11_3).toList == t826.toList) = true := beq_iff_eq.mpr c30
    have c30b1 : ((rdOf ByteArray.empty x6_2 x11_3).toList != t826.toList) = false := bne_eq_false_iff_eq.mpr c30
    clear c30
    have H' := Aside0.mk H
    clear H
    obtain ⟨Ao31, co31, eo31⟩ := Kd.R_slice HO_6.out
    subst eo31
    have p827 : 0 ≤ (x11_3 : Int) := of_decide_eq_true (by first | (with_reducible assumption) | assumption)
    have q827 : x11_3 < (x6_2.length : Int) := of_decide_eq_true (by first | (with_reducible assumption) | assumption)
    obtain ⟨ad827, e827, hx827_0⟩ := Kd.at_string (Kd.R_reads' HO_6.out).2.2 x11_3 p827 q827
    cases e827
    replace p827 := eq_true p827
    replace q827 := eq_true q827
    have p834 : 0 ≤ (x11_3 : Int) := of_decide_eq_true (by first | (with_reducible assumption) | assumption)
    have q834 : x11_3 < (x6_2.length : Int) := of_decide_eq_true (by first | (with_reducible assumption) | assumption)
    obtain ⟨ad834, e834, hx834_0⟩ := Kd.at_string (Kd.R_reads' HO_6.out).2.2 x11_3 p834 q834
    obtain rfl : ad827 = ad834 := (by injection e834)
    replace p834 := eq_true p834
    replace q834 := eq_true q834
    go_wp2
    go_roundg k3
    case measure => have := HK1.out; have := HK2.out; have := HK3.out; omega
    case rel => refine ⟨(x6_2), (wrap64 (x24_2 + 1)), (by first | rfl | (simp; done) | (simp [*]; done)), H', ⟨by have := HK1.out; have := HK2.out; have := HK3.out; omega⟩, ⟨?_⟩, ⟨?_⟩, ⟨?_⟩, ⟨bB HB⟩⟩ <;> (with_reducible repeat (first | refine g_d ?_ _ | refine g_e ?_ | refine g_a ?_ _ | apply r_a | apply r_d | apply r_e)) <;> first | exact BK820.out | exact HO_6.out | exact HO_22.out
  rw [if_neg c30] at H
  have c30b0 : ((rdOf ByteArray.empty x6_2 x11_3).toList == t826.toList) = false := beq_eq_false_iff_ne.mpr c30
  have c30b1 : ((rdOf ByteArray.empty x6_2 x11_3).toList != t826.toList) = true := bne_iff_ne.mpr c30
  by_cases c32 : x11_3 ≤ (x6_2.length : Int)
  rotate_left
  · rw [if_neg c32] at H
    exact absurd H (by simp)
  rw [if_pos c32] at H
  have c32b0 := eq_true c32
  have c32b1 : decide (x11_3 ≤ (x6_2.length : Int)) = true := decide_eq_true c32
  clear c32
  obtain ⟨y835, hy835⟩ : ∃ y_ : List ByteArray, y_ = (x6_2.take (x11_3 : Int).toNat) := ⟨_, rfl⟩
  replace H : (if x6_2.length < 8796093022000 then (spec_NextCodes.l1 k3 a1 ((y835 ++ [t826]) ++ x6_2.drop (x11_3 : Int).toNat) x7_1 y822 (y822.length : Int) (wrap64 (x24_2 + 1)) a0_0 a0_1) else (none)) = some (r1, r2) := by first | (rw [hy835]; with_reducible exact H) | (have H2_ := (Option.bind_some _ _).symm.trans H; rw [hy835]; with_reducible exact H2_) | (have H2_ := (Option.bind_some _ _).symm.trans H; with_reducible exact H2_) | with_reducible exact H | (rw [hy835]; exact H) | exact H
  have Ny835 := Aside0.mk hy835
  clear hy835
  by_cases c33 : x6_2.length < 8796093022000
  rotate_left
  · rw [if_neg c33] at H
    exact absurd H (by simp)
  rw [if_pos c33] at H
  have LMc33 := Aside0.mk c33
  clear c33
  obtain ⟨y838, hy838⟩ : ∃ y_ : List ByteArray, y_ = ((y835 ++ [t826]) ++ x6_2.drop (x11_3 : Int).toNat) := ⟨_, rfl⟩
  replace H : (spec_NextCodes.l1 k3 a1 y838 x7_1 y822 (y822.length : Int) (wrap64 (x24_2 + 1)) a0_0 a0_1) = some (r1, r2) := by first | (rw [hy838]; with_reducible exact H) | (have H2_ := (Option.bind_some _ _).symm.trans H; rw [hy838]; with_reducible exact H2_) | (have H2_ := (Option.bind_some _ _).symm.trans H; with_reducible exact H2_) | with_reducible exact H | (rw [hy838]; exact H) | exact H
  have Ny838 := Aside0.mk hy838
  clear hy838
  have H' := Aside0.mk H
  clear H
  obtain ⟨Ao34, co34, eo34⟩ := Kd.R_slice HO_6.out
  subst eo34
  have p827 : 0 ≤ (x11_3 : Int) := of_decide_eq_true (by first | (with_reducible assumption) | assumption)
  have q827 : x11_3 < (x6_2.length : Int) := of_decide_eq_true (by first | (with_reducible assumption) | assumption)
  obtain ⟨ad827, e827, hx827_0⟩ := Kd.at_string (Kd.R_reads' HO_6.out).2.2 x11_3 p827 q827
  cases e827
  replace p827 := eq_true p827
  replace q827 := eq_true q827
  have p834 : 0 ≤ (x11_3 : Int) := of_decide_eq_true (by first | (with_reducible assumption) | assumption)
  have q834 : x11_3 < (x6_2.length : Int) := of_decide_eq_true (by first | (with_reducible assumption) | assumption)
  obtain ⟨ad834, e834, hx834_0⟩ := Kd.at_string (Kd.R_reads' HO_6.out).2.2 x11_3 p834 q834
  obtain rfl : ad827 = ad834 := (by injection e834)
  replace p834 := eq_true p834
  replace q834 := eq_true q834
  try go_wp2
  have n0_ := Aside0.mk (r_e HO_6.out)
  have n1_ := Aside0.mk (r_e HO_22.out)
  have n2_ := Aside0.mk (g_e BK820.out)
  have n3_ := Aside0.mk (b_e HB.out)
  clear HO_6
  clear HO_22
  clear BK820
  clear HB
  have HO_6 := n0_
  have HO_22 := n1_
  have BK820 := n2_
  have HB := n3_
  clear n0_ n1_ n2_ n3_
  have q36 : (x11_3 : Int) ≤ ((x6_2.length : Int) : Int) := of_decide_eq_true (by first | (with_reducible assumption) | assumption)
  obtain ⟨i036, hi036, _, hsz36, _⟩ := info_parts info9
  have h0q := (of_decide_eq_true (by first | (with_reducible assumption) | assumption) : 0 ≤ (x11_3 : Int))
  have hcut36 := cut_to (P := Try.prog) 24 9 .i64 Try.underlying24 hi036 (some ad827) x6_2.length co34 x11_3 (of_decide_eq_true (by first | (with_reducible assumption) | assumption)) q36 (Kd.R_reads' HO_6.out).2.1
  have hcutD36 := cut_from (P := Try.prog) 24 9 .i64 Try.underlying24 hi036 1 hsz36 (some ad827) x6_2.length co34 x11_3 h0q q36
  obtain ⟨XT_, hXT⟩ : ∃ y_ : List ByteArray, y_ = x6_2.take (x11_3 : Int).toNat := ⟨_, rfl⟩
  obtain ⟨XD_, hXD⟩ : ∃ y_ : List ByteArray, y_ = x6_2.drop (x11_3 : Int).toNat := ⟨_, rfl⟩
  have lT : XT_.length = (x11_3 : Int).toNat := by rw [hXT, m_5]; omega
  have lD : XD_.length = x6_2.length - (x11_3 : Int).toNat := by rw [hXD, m_4]
  have hCT := Kd.C_take (m := (x11_3 : Int).toNat) (Kd.R_reads' HO_6.out).2.2 (by omega)
  have hCD := Kd.C_drop (c := co34) (m := (x11_3 : Int).toNat) (Kd.R_reads' HO_6.out).2.2 (by omega) (Kd.R_reads' HO_6.out).2.1
  rw [← hXT] at hCT
  rw [← hXD] at hCD
  simp only [show Kd.string.sz = 1 from rfl, Nat.mul_one] at hCD
  simp only [Nat.mul_one] at hcutD36
  generalize hAD : (if co34 = (x11_3 : Int).toNat then (some ad827) else Option.map (fun x => x.add (x11_3 : Int).toNat) (some ad827)) = AD_ at hcutD36 hCD
  clear hAD
  rw [← lT] at hcut36
  rw [← lD] at hcutD36
  have HCT := Aside0.mk hCT
  have HCD := Aside0.mk hCD
  have NXT := Aside0.mk hXT
  have NXD := Aside0.mk hXD
  have LMT := Aside0.mk lT
  have LMD := Aside0.mk lD
  have LMK := Aside0.mk (And.intro LMc33.out (show (x11_3 : Int).toNat ≤ x6_2.length by omega))
  clear hCT hCD hXT hXD lT lD h0q hi036 hsz36 HO_6
  replace q36 := eq_true q36
  have HBr := Aside0.mk (Below.refl wr.drew.heap.size wr.drew)
  refine start_ (n := 13) (S := fun w' => True) (ds := []) (bs_ 13 0) (by kernel_rfl) rfl rfl trivial (fun hHeld => ?_)
  generalize wr.drew = WB_ at HO_22 BK820 HB HCT HCD HBr hHeld ⊢
  refine pure_ (i := 1) (N := some 61) (v := ?_) (a' := ?_) (bs_ 13 2) rfl rfl (by kernel_rfl) (fun _ _ _ h => h) (Or.inl ⟨by rfl, ?_⟩) ?_ ?_
  rotate_left
  · intro w'
    go_simp
    with_reducible rfl
  rotate_left
  · simp only [Act.put, s_1, s_2, s_3, i64_w, i32_w]
    rfl
  refine pure_ (i := 2) (N := some 62) (v := ?_) (a' := ?_) (bs_ 13 6) rfl rfl (by kernel_rfl) (fun _ _ _ h => h) (Or.inl ⟨by rfl, ?_⟩) ?_ ?_
  rotate_left
  · intro w'
    go_simp
    with_reducible rfl
  rotate_left
  · simp only [Act.put, s_1, s_2, s_3, i64_w, i32_w]
    rfl
  refine pure_ (i := 3) (N := some 63) (v := ?_) (a' := ?_) (bs_ 13 14) rfl rfl (by kernel_rfl) (fun _ _ _ h => h) (Or.inl ⟨by rfl, ?_⟩) ?_ ?_
  rotate_left
  · intro w'
    go_simp
    with_reducible rfl
  rotate_left
  · simp only [Act.put, s_1, s_2, s_3, i64_w, i32_w]
    rfl
  refine pure_ (i := 5) (N := some 65) (v := ?_) (a' := ?_) (bs_ 13 46) rfl rfl (by kernel_rfl) (fun _ _ _ h => h) (Or.inl ⟨by rfl, ?_⟩) ?_ ?_
  rotate_left
  · intro w'
    go_simp
    with_reducible rfl
  rotate_left
  · simp only [Act.put, s_1, s_2, s_3, i64_w, i32_w]
    rfl
  refine pure_ (i := 8) (N := some 68) (v := ?_) (a' := ?_) (bs_ 13 302) rfl rfl (by kernel_rfl) (fun _ _ _ h => h) (Or.inl ⟨by rfl, ?_⟩) ?_ ?_
  rotate_left
  · intro w'
    go_simp
    with_reducible rfl
  rotate_left
  · simp only [Act.put, s_1, s_2, s_3, i64_w, i32_w]
    rfl
  refine pure_ (i := 9) (N := some 69) (v := ?_) (a' := ?_) (bs_ 13 814) rfl rfl (by kernel_rfl) (fun _ _ _ h => h) (Or.inl ⟨by rfl, ?_⟩) ?_ ?_
  rotate_left
  · intro w'
    go_simp
    with_reducible rfl
  rotate_left
  · simp only [Act.put, s_1, s_2, s_3, i64_w, i32_w]
    rfl
  refine pure_ (i := 10) (N := some 70) (v := ?_) (a' := ?_) (bs_ 13 1838) rfl rfl (by kernel_rfl) (fun _ _ _ h => h) (Or.inl ⟨by rfl, ?_⟩) ?_ ?_
  rotate_left
  · intro w'
    go_simp
    with_reducible rfl
  rotate_left
  · simp only [Act.put, s_1, s_2, s_3, i64_w, i32_w]
    rfl
  refine join_ (σ := Value × Value × Value) 3 (bs_ 13 1919) (fun s => [(60, s.1), (64, s.2.1), (66, s.2.2)]) (fun s w' => Kd.R Kd.string 9 w' WB_.heap.size (fun k_ => some k_ ≠ s.2.2.ownBlock) s.2.1 XT_ ∧ Kd.R Kd.string 9 w' WB_.heap.size (fun k_ => some k_ ≠ s.2.1.ownBlock) s.2.2 [t826] ∧ Below WB_.heap.size WB_ w') ?_ ?_
  rotate_left
  · intro hCont
    refine two_ (i := 0) (j := 6) (Ni := some 60) (Nj := some 66) (bs_ 13 1839) (bs_ 13 1902) rfl rfl rfl rfl (by kernel_rfl) (by decide) (by decide) (fun K hK => ?_) (fun K hK => ?_)
    rotate_left
    · skip
      refine Kd.R_lit_step Kd.string _ 9 ?hg (N := 66) ?hd (xs := ([t826] : List ByteArray)) (inner := [.string t826]) (ok := fun _ => True) (okp := fun _ => True) ?hr ?hp (fun _ hk => hk) trivial (Below.refl _ _) (Nat.le_refl _) (by simp) ?_; (case hd => rfl); (case hg => rfl); (case hr => first | (go_simp; done) | (go_simp; rfl)); (case hp => exact (Reps.one (show Kd.M Kd.string _ _ _ t826 [.string t826] from rfl) (Reps.none _ _)))
      intro v66 w66 ho hb hg_ hnew_
      clear hg_ hnew_
      have H66 := Aside0.mk (Kd.R_lower ho HBr.out.size)
      replace HBr := Aside0.mk (below_step HBr.out hb)
      clear hb ho
      refine hK.out _ _ trivial (fun hHeld => ?_)
      clear hK K
      refine norm_ (a' := ?_) ?_ ?_
      rotate_left
      · show Act.put _ (some 66) _ = _
        simp only [Act.put, s_1, s_2, s_3, i64_w, i32_w]
        rfl
      refine one_ (i := 0) (N := some 60) (bs_ 13 1903) rfl rfl (by kernel_rfl) (by decide) (fun K hK => ?_)
      refine Kd.R_lit_step Kd.string _ 9 ?hg (N := 60) ?hd (xs := ([] : List ByteArray)) (inner := []) (ok := fun _ => True) (okp := fun _ => True) ?hr ?hp (fun _ hk => hk) trivial (Below.refl _ _) (Nat.le_refl _) (by simp) ?_; (case hd => rfl); (case hg => rfl); (case hr => first | (go_simp; done) | (go_simp; rfl)); (case hp => exact Reps.none _ _)
      intro v60 w60 ho hb hg_ hnew_
      clear hg_ hnew_
      have H60 := Aside0.mk (Kd.R_mono (Kd.R_lower (Kd.R_new' ho (Kd.R_lt H66.out)) HBr.out.size) (fun _ hk => hk.2))
      replace H66 := Aside0.mk (Kd.R_mono (Kd.R_elder' H66.out (Kd.R_base ho) hb) (fun _ hk => hk.2))
      replace HBr := Aside0.mk (below_step HBr.out hb)
      clear hb ho
      refine hK.out _ _ trivial (fun hHeld => ?_)
      clear hK K
      refine norm_ (a' := ?_) ?_ ?_
      rotate_left
      · show Act.put _ (some 60) _ = _
        simp only [Act.put, s_1, s_2, s_3, i64_w, i32_w]
        rfl
      refine one_ (i := 4) (N := some 64) (bs_ 13 1919) rfl rfl (by kernel_rfl) (by decide) (fun K hK => ?_)
      refine Kd.R_append_rows_step Kd.string (w0 := WB_) WB_.heap.size (by rfl) (.tmp 60) (.tmp 63) 24 9 (.string ⟨#[]⟩) 16 rfl Try.underlying24 info9 rfl (by decide) (by omega) v60 [] XT_ _ _ _ (fun k_ => some k_ ≠ (v66 : Value).ownBlock) (fun _ => False) rfl rfl ?aO ?aR (fun _ _ h => h) (fun _ h => h.elim) ?aF ?aB ?aS ?aL ?_
      (case aR => exact (Kd.C_below HCT.out HBr.out))
      (case aB => exact HBr.out)
      (case aF => exact (fun k_ hk => Kd.fresh' (Kd.R_lt H66.out) k_ hk))
      (case aO => exact H60.out)
      (case aS => exact HBr.out.size)
      (case aL => have := LMK.out; have := LMT.out; simp only [List.length_nil]; omega)
      intro v64 w64 ho hb hg hat
      replace ho : Kd.R Kd.string 9 w64 WB_.heap.size (fun k_ => some k_ ≠ (v66 : Value).ownBlock) v64 XT_ := ho
      replace H66 := Aside0.mk (Kd.R_mono (Kd.R_after (ok := fun _ => True) (Kd.R_mono H66.out (fun _ hk => ⟨trivial, hk⟩)) hg hat) (fun _ hk => hk.2))
      have H64 := Aside0.mk ho
      clear H60
      replace HBr := Aside0.mk hb
      clear ho hb hg hat
      refine hK.out _ _ trivial (fun hHeld => ?_)
      clear hK K
      refine norm_ (a' := ?_) ?_ ?_
      rotate_left
      · show Act.put _ (some 64) _ = _
        simp only [Act.put, s_1, s_2, s_3, i64_w, i32_w]
        rfl
      exact norm_ (by simp only [putAll, Act.put, s_1, s_2, s_3]) (hCont (v60, v64, v66) _ ⟨H64.out, H66.out, HBr.out⟩)
    skip
    refine Kd.R_lit_step Kd.string _ 9 ?hg (N := 60) ?hd (xs := ([] : List ByteArray)) (inner := []) (ok := fun _ => True) (okp := fun _ => True) ?hr ?hp (fun _ hk => hk) trivial (Below.refl _ _) (Nat.le_refl _) (by simp) ?_; (case hd => rfl); (case hg => rfl); (case hr => first | (go_simp; done) | (go_simp; rfl)); (case hp => exact Reps.none _ _)
    intro v60 w60 ho hb hg_ hnew_
    clear hg_ hnew_
    have H60 := Aside0.mk (Kd.R_lower ho HBr.out.size)
    replace HBr := Aside0.mk (below_step HBr.out hb)
    clear hb ho
    refine hK.out _ _ trivial (fun hHeld => ?_)
    clear hK K
    refine norm_ (a' := ?_) ?_ ?_
    rotate_left
    · show Act.put _ (some 60) _ = _
      simp only [Act.put, s_1, s_2, s_3, i64_w, i32_w]
      rfl
    refine two_ (i := 4) (j := 6) (Ni := some 64) (Nj := some 66) (bs_ 13 1855) (bs_ 13 1903) rfl rfl rfl rfl (by kernel_rfl) (by decide) (by decide) (fun K hK => ?_) (fun K hK => ?_)
    · skip
      refine Kd.R_append_rows_step Kd.string (w0 := WB_) WB_.heap.size (by rfl) (.tmp 60) (.tmp 63) 24 9 (.string ⟨#[]⟩) 16 rfl Try.underlying24 info9 rfl (by decide) (by omega) v60 [] XT_ _ _ _ (fun _ => True) (fun _ => False) rfl rfl ?aO ?aR (fun _ _ h => h) (fun _ h => h.elim) ?aF ?aB ?aS ?aL ?_
      (case aR => exact (Kd.C_below HCT.out HBr.out))
      (case aB => exact HBr.out)
      (case aF => exact (fun _ _ => trivial))
      (case aO => exact H60.out)
      (case aS => exact HBr.out.size)
      (case aL => have := LMK.out; have := LMT.out; simp only [List.length_nil]; omega)
      intro v64 w64 ho hb hg hat
      replace ho : Kd.R Kd.string 9 w64 WB_.heap.size (fun _ => True) v64 XT_ := ho
      have H64 := Aside0.mk ho
      clear H60
      replace HBr := Aside0.mk hb
      clear ho hb hg hat
      refine hK.out _ _ trivial (fun hHeld => ?_)
      clear hK K
      refine norm_ (a' := ?_) ?_ ?_
      rotate_left
      · show Act.put _ (some 64) _ = _
        simp only [Act.put, s_1, s_2, s_3, i64_w, i32_w]
        rfl
      refine one_ (i := 6) (N := some 66) (bs_ 13 1919) rfl rfl (by kernel_rfl) (by decide) (fun K hK => ?_)
      refine Kd.R_lit_step Kd.string _ 9 ?hg (N := 66) ?hd (xs := ([t826] : List ByteArray)) (inner := [.string t826]) (ok := fun _ => True) (okp := fun _ => True) ?hr ?hp (fun _ hk => hk) trivial (Below.refl _ _) (Nat.le_refl _) (by simp) ?_; (case hd => rfl); (case hg => rfl); (case hr => first | (go_simp; done) | (go_simp; rfl)); (case hp => exact (Reps.one (show Kd.M Kd.string _ _ _ t826 [.string t826] from rfl) (Reps.none _ _)))
      intro v66 w66 ho hb hg_ hnew_
      clear hg_ hnew_
      have H66 := Aside0.mk (Kd.R_mono (Kd.R_lower (Kd.R_new' ho (Kd.R_lt H64.out)) HBr.out.size) (fun _ hk => hk.2))
      replace H64 := Aside0.mk (Kd.R_mono (Kd.R_elder' H64.out (Kd.R_base ho) hb) (fun _ hk => hk.2))
      replace HBr := Aside0.mk (below_step HBr.out hb)
      clear hb ho
      refine hK.out _ _ trivial (fun hHeld => ?_)
      clear hK K
      refine norm_ (a' := ?_) ?_ ?_
      rotate_left
      · show Act.put _ (some 66) _ = _
        simp only [Act.put, s_1, s_2, s_3, i64_w, i32_w]
        rfl
      exact norm_ (by simp only [putAll, Act.put, s_1, s_2, s_3]) (hCont (v60, v64, v66) _ ⟨H64.out, H66.out, HBr.out⟩)
    skip
    refine Kd.R_lit_step Kd.string _ 9 ?hg (N := 66) ?hd (xs := ([t826] : List ByteArray)) (inner := [.string t826]) (ok := fun _ => True) (okp := fun _ => True) ?hr ?hp (fun _ hk => hk) trivial (Below.refl _ _) (Nat.le_refl _) (by simp) ?_; (case hd => rfl); (case hg => rfl); (case hr => first | (go_simp; done) | (go_simp; rfl)); (case hp => exact (Reps.one (show Kd.M Kd.string _ _ _ t826 [.string t826] from rfl) (Reps.none _ _)))
    intro v66 w66 ho hb hg_ hnew_
    clear hg_ hnew_
    have H66 := Aside0.mk (Kd.R_mono (Kd.R_lower (Kd.R_new' ho (Kd.R_lt H60.out)) HBr.out.size) (fun _ hk => hk.2))
    replace H60 := Aside0.mk (Kd.R_mono (Kd.R_elder' H60.out (Kd.R_base ho) hb) (fun _ hk => hk.2))
    replace HBr := Aside0.mk (below_step HBr.out hb)
    clear hb ho
    refine hK.out _ _ trivial (fun hHeld => ?_)
    clear hK K
    refine norm_ (a' := ?_) ?_ ?_
    rotate_left
    · show Act.put _ (some 66) _ = _
      simp only [Act.put, s_1, s_2, s_3, i64_w, i32_w]
      rfl
    refine one_ (i := 4) (N := some 64) (bs_ 13 1919) rfl rfl (by kernel_rfl) (by decide) (fun K hK => ?_)
    refine Kd.R_append_rows_step Kd.string (w0 := WB_) WB_.heap.size (by rfl) (.tmp 60) (.tmp 63) 24 9 (.string ⟨#[]⟩) 16 rfl Try.underlying24 info9 rfl (by decide) (by omega) v60 [] XT_ _ _ _ (fun k_ => some k_ ≠ (v66 : Value).ownBlock) (fun _ => False) rfl rfl ?aO ?aR (fun _ _ h => h) (fun _ h => h.elim) ?aF ?aB ?aS ?aL ?_
    (case aR => exact (Kd.C_below HCT.out HBr.out))
    (case aB => exact HBr.out)
    (case aF => exact (fun k_ hk => Kd.fresh' (Kd.R_lt H66.out) k_ hk))
    (case aO => exact H60.out)
    (case aS => exact HBr.out.size)
    (case aL => have := LMK.out; have := LMT.out; simp only [List.length_nil]; omega)
    intro v64 w64 ho hb hg hat
    replace ho : Kd.R Kd.string 9 w64 WB_.heap.size (fun k_ => some k_ ≠ (v66 : Value).ownBlock) v64 XT_ := ho
    replace H66 := Aside0.mk (Kd.R_mono (Kd.R_after (ok := fun _ => True) (Kd.R_mono H66.out (fun _ hk => ⟨trivial, hk⟩)) hg hat) (fun _ hk => hk.2))
    have H64 := Aside0.mk ho
    clear H60
    replace HBr := Aside0.mk hb
    clear ho hb hg hat
    refine hK.out _ _ trivial (fun hHeld => ?_)
    clear hK K
    refine norm_ (a' := ?_) ?_ ?_
    rotate_left
    · show Act.put _ (some 64) _ = _
      simp only [Act.put, s_1, s_2, s_3, i64_w, i32_w]
      rfl
    exact norm_ (by simp only [putAll, Act.put, s_1, s_2, s_3]) (hCont (v60, v64, v66) _ ⟨H64.out, H66.out, HBr.out⟩)
  rintro ⟨v60, v64, v66⟩ w66 ⟨h0_, h1_, h2_⟩
  have H64 := Aside0.mk h0_
  have H66 := Aside0.mk h1_
  replace HBr := Aside0.mk h2_
  clear h0_ h1_ h2_
  have hHeld := trivial
  obtain ⟨A66, c66, e66⟩ := Kd.R_slice H66.out
  subst e66
  refine norm_ (a' := ?_) ?_ ?_
  rotate_left
  · simp only [putAll, Act.put, s_1, s_2, s_3]
    rfl
  refine one_ (i := 7) (N := some 67) (bs_ 13 2047) rfl rfl (by kernel_rfl) (by decide) (fun K hK => ?_)
  refine Kd.R_append_rows_step Kd.string (w0 := WB_) WB_.heap.size (by rfl) (.tmp 64) (.tmp 66) 24 9 (.string ⟨#[]⟩) 16 rfl Try.underlying24 info9 rfl (by decide) (by omega) v64 XT_ [t826] _ _ _ (fun k_ => some k_ ≠ (.slice A66 [t826].length c66 : Value).ownBlock) (fun _ => False) rfl rfl ?aO ?aR (fun _ _ h => h) (fun _ h => h.elim) ?aF ?aB ?aS ?aL ?_
  (case aR => exact ((Kd.R_reads' H66.out).2.2))
  (case aB => exact HBr.out)
  (case aF => exact (fun k_ hk => Kd.fresh' (Kd.R_lt H66.out) k_ hk))
  (case aO => exact H64.out)
  (case aS => exact HBr.out.size)
  (case aL => have := LMK.out; have := LMT.out; simp only [List.length_cons, List.length_nil]; omega)
  intro v67 w67 ho hb hg hat
  have H67 := Aside0.mk (Kd.R_mono (ok' := fun _ => True) ho (fun _ _ => trivial))
  replace HBr := Aside0.mk hb
  clear ho hb hg hat H64 H66
  refine hK.out _ _ trivial (fun hHeld => ?_)
  clear hK K
  refine norm_ (a' := ?_) ?_ ?_
  rotate_left
  · show Act.put _ (some 67) _ = _
    simp only [Act.put, s_1, s_2, s_3, i64_w, i32_w]
    rfl
  refine one_ (i := 11) (N := some 71) (bs_ 13 4095) rfl rfl (by kernel_rfl) (by decide) (fun K hK => ?_)
  refine Kd.R_append_rows_step Kd.string (w0 := WB_) WB_.heap.size (by rfl) (.tmp 67) (.tmp 70) 24 9 (.string ⟨#[]⟩) 16 rfl Try.underlying24 info9 rfl (by decide) (by omega) v67 (XT_ ++ [t826]) XD_ _ _ _ (fun _ => True) (fun _ => False) rfl rfl ?aO ?aR (fun _ _ h => h) (fun _ h => h.elim) ?aF ?aB ?aS ?aL ?_
  (case aR => exact (Kd.C_below HCD.out HBr.out))
  (case aB => exact HBr.out)
  (case aF => exact (fun _ _ => trivial))
  (case aO => exact H67.out)
  (case aS => exact HBr.out.size)
  (case aL => have := LMK.out; have := LMT.out; have := LMD.out; simp only [List.length_append, List.length_cons, List.length_nil]; omega)
  intro v71 w71 ho hb hg hat
  have H71 := Aside0.mk ho
  replace HBr := Aside0.mk hb
  clear ho hb hg hat H67
  refine hK.out _ _ trivial (fun hHeld => ?_)
  clear hK K
  refine norm_ (a' := ?_) ?_ ?_
  rotate_left
  · show Act.put _ (some 71) _ = _
    simp only [Act.put, s_1, s_2, s_3, i64_w, i32_w]
    rfl
  refine pure_ (i := 12) (N := some 6) (v := ?_) (a' := ?_) (bs_ 13 8191) rfl rfl (by kernel_rfl) (fun _ _ _ h => h) (Or.inl ⟨by rfl, ?_⟩) ?_ ?_
  rotate_left
  · intro w'
    go_simp
    with_reducible rfl
  rotate_left
  · simp only [Act.put, s_1, s_2, s_3, i64_w, i32_w]
    rfl
  refine done_ (by kernel_rfl) ?_
  have n0_ := Aside0.mk (Kd.R_lower H71.out (below_size HB.out))
  replace HO_22 := Aside0.mk (Kd.R_below HO_22.out HBr.out)
  replace BK820 := Aside0.mk (blk_below (g := gb820) (o := .cells #[.int .i64 a0_0, .int .i64 a0_1] 28 (0, 0)) BK820.out HBr.out)
  replace HB := Aside0.mk (below_step HB.out HBr.out)
  have hy_ : (XT_ ++ [t826]) ++ XD_ = y838 := by rw [Ny838.out, Ny835.out, NXT.out, NXD.out]
  rw [hy_] at n0_
  clear hy_ H71 HBr HCT HCD
  have HO840 := n0_
  clear n0_
  try go_wp2
  go_roundg k3
  case measure => have := HK1.out; have := HK2.out; have := HK3.out; omega
  case rel => refine ⟨(y838), (wrap64 (x24_2 + 1)), (by first | rfl | (simp; done) | (simp [*]; done)), H', ⟨by have := HK1.out; have := HK2.out; have := HK3.out; omega⟩, ⟨?_⟩, ⟨?_⟩, ⟨?_⟩, ⟨bB HB⟩⟩ <;> (with_reducible repeat (first | refine g_d ?_ _ | refine g_e ?_ | refine g_a ?_ _ | apply r_a | apply r_d | apply r_e)) <;> first | exact BK820.out | exact HO840.out | exact HO_22.out
/-! ### spec_l1HasS: function 86 -/
def spec_l1HasS.l0 : Nat → ByteArray → List ByteArray → Int → Int → Option (Bool)
  | 0, _, _, _, _ => none
  | k + 1, x1, x7, x8, x9 => if x9 < x8 then (if 0 ≤ x9 then (if x9 < (x7.length : Int) then (if (rdOf ByteArray.empty x7 x9).toList = x1.toList then (some true) else (spec_l1HasS.l0 k x1 x7 x8 (wrap64 (x9 + 1)))) else (none)) else (none)) else (some false)
def spec_l1HasS.f (k : Nat) (l0 : List ByteArray) (a1 : ByteArray) : Option (Bool) := spec_l1HasS.l0 k a1 l0 (l0.length : Int) 0
theorem spec_l1HasS.mono_l : ∀ k, (∀ y0 y1 y2 y3, LeO (spec_l1HasS.l0 k y0 y1 y2 y3) (spec_l1HasS.l0 (k + 1) y0 y1 y2 y3))
  | 0 => fun _ _ _ _ r h => by simp [spec_l1HasS.l0] at h
  | k + 1 => by
    have ih0 := spec_l1HasS.mono_l k
    · intro y0 y1 y2 y3
      unfold spec_l1HasS.l0
      repeat' first
      | (with_reducible exact ih0 _ _ _ _)
      | (with_reducible exact LeO.refl _)
      | (with_reducible exact LeO.none _)
      | (with_reducible refine LeO.ite ?_ ?_)
      | (with_reducible refine LeO.bind ?_ (fun _ => ?_))
      | exact ih0 _ _ _ _
      | exact LeO.none _
      | refine LeO.ite ?_ ?_
      | refine LeO.bind ?_ (fun _ => ?_)
theorem spec_l1HasS.mono : ∀ a0 a1 k, LeO (spec_l1HasS.f k a0 a1) (spec_l1HasS.f (k + 1) a0 a1) := by
  intro a0 a1 k
  have ih0 := spec_l1HasS.mono_l k
  unfold spec_l1HasS.f
  repeat' first
      | (with_reducible exact ih0 _ _ _ _)
      | (with_reducible exact LeO.refl _)
      | (with_reducible exact LeO.none _)
      | (with_reducible refine LeO.ite ?_ ?_)
      | (with_reducible refine LeO.bind ?_ (fun _ => ?_))
      | exact ih0 _ _ _ _
      | exact LeO.none _
      | refine LeO.ite ?_ ?_
      | refine LeO.bind ?_ (fun _ => ?_)
set_option maxHeartbeats 8000000 in
set_option maxRecDepth 100000 in
theorem spec_l1HasS.calls (k : Nat) (A0 : Option Addr) (c0 : Nat) (l0 : List ByteArray) (a1 : ByteArray) (r : Bool) (w : World) (hr0 : Kd.C Kd.string w A0 l0.length l0) (hc0 : l0.length ≤ c0) (h : spec_l1HasS.f k l0 a1 = some r) :
    Calls Try.prog 86 #[.slice A0 l0.length c0, .string a1] w fun e w' => e = .returned (.bool r) ∧ Drawn0 w w' := by
  have HR0 := Aside0.mk hr0
  have HC0 := Aside0.mk hc0
  clear hr0 hc0
  have H : (spec_l1HasS.l0 k a1 l0 (l0.length : Int) 0) = some r := h
  clear h
  have H' := Aside0.mk H
  clear H
  go_enter Try.func86, Try.ntmps86
  go_wp2
  go_loopg [9] k (fun kq v9 w' => ∃ (x9_1 : Int), v9 = .int .i64 x9_1 ∧ Aside0 (spec_l1HasS.l0 kq a1 l0 (l0.length : Int) x9_1 = some r) ∧ Aside0 (kq ≤ k) ∧ Drawn0 w w')
  case atStart => exact ⟨(0), (by first | rfl | (simp; done) | (simp [*]; done)), H', ⟨Nat.le_refl _⟩, by repeat (first | exact Drawn0.refl _ | apply Drawn0.step)⟩
  clear H'
  obtain ⟨x9_1, rfl, HA, HK1, ⟨m1, rfl⟩⟩ := hrel
  rcases gk with _ | k1
  · exact absurd HA.out (by simp [spec_l1HasS.l0])
  have H := HA.out
  clear HA
  simp only [spec_l1HasS.l0] at H
  by_cases c3 : x9_1 < (l0.length : Int)
  rotate_left
  · rw [if_neg c3] at H
    have c3b0 : decide (x9_1 < (l0.length : Int)) = false := decide_eq_false c3
    clear c3
    obtain rfl := Option.some.inj H
    go_wp2
    go_ret
    exact ⟨by first | rfl | (simp; done) | (simp [*]; done), by repeat (first | exact Drawn0.refl _ | apply Drawn0.step)⟩

  rw [if_pos c3] at H
  have c3b0 : decide (x9_1 < (l0.length : Int)) = true := decide_eq_true c3
  clear c3
  by_cases c4 : 0 ≤ x9_1
  rotate_left
  · rw [if_neg c4] at H
    exact absurd H (by simp)
  rw [if_pos c4] at H
  have c4b0 : decide (0 ≤ x9_1) = true := decide_eq_true c4
  clear c4
  by_cases c5 : x9_1 < (l0.length : Int)
  rotate_left
  · rw [if_neg c5] at H
    exact absurd H (by simp)
  rw [if_pos c5] at H
  have c5b0 : decide (x9_1 < (l0.length : Int)) = true := decide_eq_true c5
  clear c5
  by_cases c6 : (rdOf ByteArray.empty l0 x9_1).toList = a1.toList
  · rw [if_pos c6] at H
    have c6b0 : ((rdOf ByteArray.empty l0 x9_1).toList == a1.toList) = true := beq_iff_eq.mpr c6
    have c6b1 : ((rdOf ByteArray.empty l0 x9_1).toList != a1.toList) = false := bne_eq_false_iff_eq.mpr c6
    clear c6
    obtain rfl := Option.some.inj H
    have p847 : 0 ≤ (x9_1 : Int) := of_decide_eq_true (by first | (with_reducible assumption) | assumption)
    have q847 : x9_1 < (l0.length : Int) := of_decide_eq_true (by first | (with_reducible assumption) | assumption)
    obtain ⟨ad847, e847, hx847_0⟩ := Kd.at_string HR0.out x9_1 p847 q847
    cases e847
    replace p847 := eq_true p847
    replace q847 := eq_true q847
    go_wp2
    go_ret
    exact ⟨by first | rfl | (simp; done) | (simp [*]; done), by repeat (first | exact Drawn0.refl _ | apply Drawn0.step)⟩
  rw [if_neg c6] at H
  have c6b0 : ((rdOf ByteArray.empty l0 x9_1).toList == a1.toList) = false := beq_eq_false_iff_ne.mpr c6
  have c6b1 : ((rdOf ByteArray.empty l0 x9_1).toList != a1.toList) = true := bne_iff_ne.mpr c6
  have H' := Aside0.mk H
  clear H
  have p847 : 0 ≤ (x9_1 : Int) := of_decide_eq_true (by first | (with_reducible assumption) | assumption)
  have q847 : x9_1 < (l0.length : Int) := of_decide_eq_true (by first | (with_reducible assumption) | assumption)
  obtain ⟨ad847, e847, hx847_0⟩ := Kd.at_string HR0.out x9_1 p847 q847
  cases e847
  replace p847 := eq_true p847
  replace q847 := eq_true q847
  go_wp2
  go_roundg k1
  case measure => have := HK1.out; omega
  case rel => exact ⟨(wrap64 (x9_1 + 1)), (by first | rfl | (simp; done) | (simp [*]; done)), H', ⟨by have := HK1.out; omega⟩, by repeat (first | exact Drawn0.refl _ | apply Drawn0.step)⟩
/-! ### spec_l1OwnS: function 131 -/
def spec_l1OwnS.f (l0 : List ByteArray) : Option (List ByteArray) := (some (([] : List ByteArray) : List ByteArray)).bind fun y848 => (if y848.length + l0.length < 8796093022208 then (some (y848 ++ l0)) else (none))
set_option maxHeartbeats 8000000 in
set_option maxRecDepth 100000 in
theorem spec_l1OwnS.calls (A0 : Option Addr) (c0 : Nat) (l0 : List ByteArray) (r : List ByteArray) (w : World) (hr0 : Kd.C Kd.string w A0 l0.length l0) (hc0 : l0.length ≤ c0) (h : spec_l1OwnS.f l0 = some r) :
    Calls Try.prog 131 #[.slice A0 l0.length c0] w fun e w' => ∃ v0_ : Value, e = .returned (v0_) ∧ Kd.R Kd.string 9 w' w.heap.size (fun _ => True) v0_ r ∧ Below w.heap.size w w' := by
  have HR0 := Aside0.mk hr0
  have HC0 := Aside0.mk hc0
  clear hr0 hc0
  have HB := Aside0.mk (Below.refl w.heap.size w)
  have H : ((some (([] : List ByteArray) : List ByteArray)).bind fun y848 => (if y848.length + l0.length < 8796093022208 then (some (y848 ++ l0)) else (none))) = some r := h
  clear h
  obtain ⟨y848, hy848⟩ : ∃ y_ : List ByteArray, y_ = (([] : List ByteArray)) := ⟨_, rfl⟩
  replace H : (if y848.length + l0.length < 8796093022208 then (some (y848 ++ l0)) else (none)) = some r := by first | (rw [hy848]; with_reducible exact H) | (have H2_ := (Option.bind_some _ _).symm.trans H; rw [hy848]; with_reducible exact H2_) | (have H2_ := (Option.bind_some _ _).symm.trans H; with_reducible exact H2_) | with_reducible exact H | (rw [hy848]; exact H) | exact H
  have Ny848 := Aside0.mk hy848
  clear hy848
  by_cases c2 : y848.length + l0.length < 8796093022208
  rotate_left
  · rw [if_neg c2] at H
    exact absurd H (by simp)

  rw [if_pos c2] at H
  have LMc2 := Aside0.mk c2
  clear c2
  obtain ⟨y851, hy851⟩ : ∃ y_ : List ByteArray, y_ = (y848 ++ l0) := ⟨_, rfl⟩
  replace H : (some y851) = some r := by first | (rw [hy851]; with_reducible exact H) | (have H2_ := (Option.bind_some _ _).symm.trans H; rw [hy851]; with_reducible exact H2_) | (have H2_ := (Option.bind_some _ _).symm.trans H; with_reducible exact H2_) | with_reducible exact H | (rw [hy851]; exact H) | exact H
  have Ny851 := Aside0.mk hy851
  clear hy851
  obtain rfl := Option.some.inj H
  go_enter Try.func131, Try.ntmps131
  go_wp2_with (first | ((with_reducible refine gate_dst (N := 3) rfl ?_); refine Kd.R_lit Kd.string _ 9 ?hg (N := 3) ?hd (xs := ([] : List ByteArray)) (inner := []) (ok := fun _ => True) (okp := fun _ => True) ?hr ?hp (fun _ hk => hk) trivial (Below.refl _ _) (Nat.le_refl _) (by simp) ?_; (case hd => rfl); (case hg => rfl); (case hr => first | (go_simp; done) | (go_simp; rfl)); (case hp => exact (Reps.none _ _)); intro v849 w3 ho4 hb hg_ hnew_; clear hg_ hnew_; (first | rw [← Ny848.out] at ho4 | (simp only [Int.reduceToNat] at ho4; rw [← Ny848.out] at ho4)); have n0_ := Aside0.mk (Kd.R_lower ho4 (below_size (bB HB))); have n1_ := bsx hb HB; clear HB; have HO850 := n0_; have HB := n1_; clear n0_ n1_; clear hb ho4) | ((with_reducible refine gate_builtin (b := .append) (xs := #[.tmp 3, .tmp 4]) rfl ?_); at_builtin; refine Kd.R_append_rows Kd.string (w0 := w) w.heap.size rfl (.tmp 3) (.tmp 4) 24 9 (.string ⟨#[]⟩) 16 rfl Try.underlying24 info9 rfl (by decide) (by omega) v849 y848 l0 _ _ _ (fun _ => True) (fun _ => False) rfl rfl ?aO ?aR (fun _ _ h => h) (fun _ h => h.elim) ?aF ?aB ?aS ?aL ?_; (case aR => repeat (first | exact (Kd.C_below HR0.out HB.out) | (with_reducible refine Kd.C_alloc ?_ _) | (with_reducible refine Kd.C_drewN ?_ _) | (with_reducible refine Kd.C_drew ?_))); (case aB => exact (bB HB)); (case aF => exact (fun _ _ => trivial)); (case aO => exact (by (with_reducible repeat (first | apply r_a | apply r_d | apply r_e)); exact HO850.out)); (case aS => exact (below_size (bB HB))); (case aL => have := LMc2.out; omega); intro v852 w5 ho hb hg hat; rw [← Ny851.out] at ho; have n0_ := Aside0.mk (hb); have n1_ := Aside0.mk (ho); clear HB; clear HO850; have HB := n0_; have HO853 := n1_; clear n0_ n1_; clear ho hb hg hat))
  go_ret
  exact ⟨_, by first | rfl | (simp [errW_none, errW_some] <;> rfl) | (simp [*, errW_none, errW_some] <;> rfl), by (with_reducible repeat (first | apply r_a | apply r_d | apply r_e)); exact HO853.out, bB HB⟩
end Go.Proofs.Ytihhiolflbieaaa.P
