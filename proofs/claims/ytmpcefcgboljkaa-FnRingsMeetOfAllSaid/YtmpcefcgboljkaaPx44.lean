-- Texts of this session's own program (wip/dr.py), which runs the kit's printer.
import Derived.Test.YtmpcefcgboljkaaPx0
import Derived.Test.YtmpcefcgboljkaaPx1
import Derived.Test.YtmpcefcgboljkaaPx20
namespace Go.Proofs.Ytmpcefcgboljkaa.P
open Go.RowKit Go.Proofs.YtmpcefcgboljkaaW.PrintWords Go.Proofs.YtmpcefcgboljkaaW.PrintLast Go.Proofs.YtmpcefcgboljkaaW.PrintMore
attribute [local go_sem] max2_int min2_int max_two min_two max_three min_three max_four min_four   -- for this text's walks alone
set_option linter.unusedVariables false
set_option linter.unusedSimpArgs false

/-! ### impl_Lock_met: function 61 -/
def impl_Lock_met.l0 : Nat → ByteArray → List ByteArray → Int → Int → Int → Option (List ByteArray)
  | 0, _, _, _, _, _ => none
  | k + 1, x1, x5, x6, x200000, x200001 => if (wrap64 (x6 + x200000)) ≤ (x1.size : Int) then (if 0 ≤ x6 then (if x6 ≤ (wrap64 (x6 + x200000)) then (if x5.length < 8796093022208 then (impl_Lock_met.l0 k x1 (x5 ++ [x1.extract (x6 : Int).toNat ((wrap64 (x6 + x200000)) : Int).toNat]) (wrap64 (x6 + 1)) x200000 x200001) else (none)) else (none)) else (none)) else (some x5)
def impl_Lock_met.f (k : Nat) (a0_0 : Int) (a0_1 : Int) (a1 : ByteArray) : Option (List ByteArray) := impl_Lock_met.l0 k a1 (([] : List ByteArray)) 0 a0_0 a0_1
theorem impl_Lock_met.mono_l : ∀ k, (∀ y0 y1 y2 y3 y4, LeO (impl_Lock_met.l0 k y0 y1 y2 y3 y4) (impl_Lock_met.l0 (k + 1) y0 y1 y2 y3 y4))
  | 0 => fun _ _ _ _ _ r h => by simp [impl_Lock_met.l0] at h
  | k + 1 => by
    have ih0 := impl_Lock_met.mono_l k
    · intro y0 y1 y2 y3 y4
      unfold impl_Lock_met.l0
      repeat' first
      | (with_reducible exact ih0 _ _ _ _ _)
      | (with_reducible exact LeO.refl _)
      | (with_reducible exact LeO.none _)
      | (with_reducible refine LeO.ite ?_ ?_)
      | (with_reducible refine LeO.bind ?_ (fun _ => ?_))
      | exact ih0 _ _ _ _ _
      | exact LeO.none _
      | refine LeO.ite ?_ ?_
      | refine LeO.bind ?_ (fun _ => ?_)
theorem impl_Lock_met.mono : ∀ a0 a1 a2 k, LeO (impl_Lock_met.f k a0 a1 a2) (impl_Lock_met.f (k + 1) a0 a1 a2) := by
  intro a0 a1 a2 k
  have ih0 := impl_Lock_met.mono_l k
  unfold impl_Lock_met.f
  repeat' first
      | (with_reducible exact ih0 _ _ _ _ _)
      | (with_reducible exact LeO.refl _)
      | (with_reducible exact LeO.none _)
      | (with_reducible refine LeO.ite ?_ ?_)
      | (with_reducible refine LeO.bind ?_ (fun _ => ?_))
      | exact ih0 _ _ _ _ _
      | exact LeO.none _
      | refine LeO.ite ?_ ?_
      | refine LeO.bind ?_ (fun _ => ?_)
set_option maxHeartbeats 8000000 in
set_option maxRecDepth 100000 in
theorem impl_Lock_met.calls (k : Nat) (a0_0 : Int) (a0_1 : Int) (a1 : ByteArray) (r : List ByteArray) (w : World) (h : impl_Lock_met.f k a0_0 a0_1 a1 = some r) :
    Calls Try.prog 61 #[.agg #[.int .i64 a0_0, .int .i64 a0_1], .string a1] w fun e w' => ∃ v0_ : Value, e = .returned (v0_) ∧ Kd.R Kd.string 9 w' w.heap.size (fun _ => True) v0_ r ∧ Below w.heap.size w w' := by
  have hu26 := Try.underlying26
  have HB := Aside0.mk (Below.refl w.heap.size w)
  have H : (impl_Lock_met.l0 k a1 (([] : List ByteArray)) 0 a0_0 a0_1) = some r := h
  clear h
  obtain ⟨y200, hy200⟩ : ∃ y_ : List ByteArray, y_ = (([] : List ByteArray)) := ⟨_, rfl⟩
  replace H : (impl_Lock_met.l0 k a1 y200 0 a0_0 a0_1) = some r := by first | (rw [hy200]; with_reducible exact H) | (have H2_ := (Option.bind_some _ _).symm.trans H; rw [hy200]; with_reducible exact H2_) | (have H2_ := (Option.bind_some _ _).symm.trans H; with_reducible exact H2_) | with_reducible exact H | (rw [hy200]; exact H) | exact H
  have Ny200 := Aside0.mk hy200
  clear hy200
  have H' := Aside0.mk H
  clear H
  go_enter Try.func61, Try.ntmps61
  go_wp2_with (first | ((with_reducible refine gate_dst (N := 2) rfl ?_); refine box_event ?hg (N := 2) ?hd (cs := #[.int .i64 a0_0, .int .i64 a0_1]) (t := 26) ?hr ?_; (case hd => rfl); (case hg => rfl); (case hr => first | (go_simp; done) | (go_simp; rfl)); intro gb199 hg w3 hbox hb; have n0_ := bsx hb HB; have n1_ := Aside0.mk (hbox); have n2_ := gwx hg HB; have n3_ := n2_; clear HB; have HB := n0_; have BK199 := n1_; have GW199 := n2_; have GE199 := n3_; clear n0_ n1_ n2_ n3_; clear hb hbox hg) | ((with_reducible refine gate_dst (N := 7) rfl ?_); refine Kd.R_lit Kd.string _ 9 ?hg (N := 7) ?hd (xs := ([] : List ByteArray)) (inner := []) (ok := fun _ => True) (okp := fun _ => True) ?hr ?hp (fun _ hk => hk) trivial (Below.refl _ _) (Nat.le_refl _) (by simp) ?_; (case hd => rfl); (case hg => rfl); (case hr => first | (go_simp; done) | (go_simp; rfl)); (case hp => exact (Reps.none _ _)); intro v201 w4 ho5 hb hg_ hnew_; clear hg_ hnew_; (first | rw [← Ny200.out] at ho5 | (simp only [Int.reduceToNat] at ho5; rw [← Ny200.out] at ho5)); have n0_ := Aside0.mk (Kd.R_lower ho5 (below_size (bB HB))); replace BK199 := bbx hb BK199; have n2_ := bsx hb HB; clear HB; have HO202 := n0_; have HB := n2_; clear n0_ n2_; clear hb ho5))
  go_loopg [5, 6] k (fun kq v5 v6 w' => ∃ (x5_1 : List ByteArray) (x6_1 : Int), v6 = .int .i64 x6_1 ∧ Aside0 (impl_Lock_met.l0 kq a1 x5_1 x6_1 a0_0 a0_1 = some r) ∧ Aside0 (kq ≤ k) ∧ Aside0 (Kd.R Kd.string 9 w' w.heap.size (fun _ => True) v5 x5_1) ∧ Aside0 (w'.heap[gb199]? = some (.cells #[.int .i64 a0_0, .int .i64 a0_1] 26 (0, 0))) ∧ Aside0 (Below w.heap.size w w'))
  case atStart => refine ⟨(y200), (0), (by first | rfl | (simp; done) | (simp [*]; done)), H', ⟨Nat.le_refl _⟩, ⟨?_⟩, ⟨?_⟩, ⟨bB HB⟩⟩ <;> (with_reducible repeat (first | refine g_d ?_ _ | refine g_e ?_ | refine g_a ?_ _ | apply r_a | apply r_d | apply r_e)) <;> first | exact BK199.out | exact HO202.out
  clear H'
  obtain ⟨x5_1, x6_1, rfl, HA, HK1, HO_5, BK199, HB⟩ := hrel
  rcases gk with _ | k1
  · exact absurd HA.out (by simp [impl_Lock_met.l0])
  have H := HA.out
  clear HA
  simp only [impl_Lock_met.l0] at H
  by_cases c6 : (wrap64 (x6_1 + a0_0)) ≤ (a1.size : Int)
  rotate_left
  · rw [if_neg c6] at H
    have c6b0 : decide ((wrap64 (x6_1 + a0_0)) ≤ (a1.size : Int)) = false := decide_eq_false c6
    clear c6
    obtain rfl := Option.some.inj H
    have hcz13_0 := cz0 BK199
    have hcz13_1 := cz1 BK199
    have hfz13_0 := blk_frozen BK199.out 0
    have hfz13_1 := blk_frozen BK199.out 1
    go_wp2
    go_ret
    exact ⟨_, by first | rfl | (simp [errW_none, errW_some] <;> rfl) | (simp [*, errW_none, errW_some] <;> rfl), by (with_reducible repeat (first | apply r_a | apply r_d | apply r_e)); exact HO_5.out, bB HB⟩

  rw [if_pos c6] at H
  have c6b0 : decide ((wrap64 (x6_1 + a0_0)) ≤ (a1.size : Int)) = true := decide_eq_true c6
  clear c6
  by_cases c7 : 0 ≤ x6_1
  rotate_left
  · rw [if_neg c7] at H
    exact absurd H (by simp)
  rw [if_pos c7] at H
  have c7b0 := eq_true c7
  have c7b1 : decide (0 ≤ x6_1) = true := decide_eq_true c7
  clear c7
  by_cases c8 : x6_1 ≤ (wrap64 (x6_1 + a0_0))
  rotate_left
  · rw [if_neg c8] at H
    exact absurd H (by simp)
  rw [if_pos c8] at H
  have c8b0 := eq_true c8
  have c8b1 : decide (x6_1 ≤ (wrap64 (x6_1 + a0_0))) = true := decide_eq_true c8
  have c9b0 := eq_true (of_decide_eq_true (by first | (with_reducible assumption) | assumption) : (wrap64 (x6_1 + a0_0)) ≤ (a1.size : Int))
  by_cases c10 : x5_1.length < 8796093022208
  rotate_left
  · rw [if_neg c10] at H
    exact absurd H (by simp)
  rw [if_pos c10] at H
  have LMc10 := Aside0.mk c10
  clear c10
  obtain ⟨y203, hy203⟩ : ∃ y_ : List ByteArray, y_ = (x5_1 ++ [a1.extract (x6_1 : Int).toNat ((wrap64 (x6_1 + a0_0)) : Int).toNat]) := ⟨_, rfl⟩
  replace H : (impl_Lock_met.l0 k1 a1 y203 (wrap64 (x6_1 + 1)) a0_0 a0_1) = some r := by first | (rw [hy203]; with_reducible exact H) | (have H2_ := (Option.bind_some _ _).symm.trans H; rw [hy203]; with_reducible exact H2_) | (have H2_ := (Option.bind_some _ _).symm.trans H; with_reducible exact H2_) | with_reducible exact H | (rw [hy203]; exact H) | exact H
  have Ny203 := Aside0.mk hy203
  clear hy203
  have H' := Aside0.mk H
  clear H
  have hcz11_0 := cz0 BK199
  have hcz11_1 := cz1 BK199
  have hfz11_0 := blk_frozen BK199.out 0
  have hfz11_1 := blk_frozen BK199.out 1
  go_wp2_with (first | ((with_reducible refine gate_builtin (b := .append) (xs := #[.tmp 17, .tmp 25]) rfl ?_); at_builtin; refine Kd.R_append Kd.string (w0 := w) w.heap.size rfl (.tmp 17) (.tmp 25) 31 9 (.string ⟨#[]⟩) 16 rfl Try.underlying31 info9 rfl (by decide) (by omega) u5 x5_1 (a1.extract (x6_1 : Int).toNat ((wrap64 (x6_1 + a0_0)) : Int).toNat) [.string (a1.extract (x6_1 : Int).toNat ((wrap64 (x6_1 + a0_0)) : Int).toNat)] (fun _ => True) (fun _ => False) rfl rfl ?aP (fun _ hk => hk.elim) ?aF ?aO ?aB ?aS ?aL ?_; (case aP => exact rfl); (case aB => exact (bB HB)); (case aF => exact (fun _ _ => trivial)); (case aO => exact (by (with_reducible repeat (first | apply r_a | apply r_d | apply r_e)); exact HO_5.out)); (case aS => exact (below_size (bB HB))); (case aL => have := LMc10.out; omega); intro v204 w12 ho hb hg hat; rw [← Ny203.out] at ho; have n0_ := Aside0.mk (blk_grown (g := gb199) (o := .cells #[.int .i64 a0_0, .int .i64 a0_1] 26 (0, 0)) (bK BK199) hg (Kd.R_ne HO_5.out BK199.out (by decide))); have n1_ := Aside0.mk (hb); have n2_ := Aside0.mk (ho); clear BK199; clear HB; clear HO_5; have BK199 := n0_; have HB := n1_; have HO205 := n2_; clear n0_ n1_ n2_; clear ho hb hg hat))
  go_roundg k1
  case measure => have := HK1.out; omega
  case rel => refine ⟨(y203), (wrap64 (x6_1 + 1)), (by first | rfl | (simp; done) | (simp [*]; done)), H', ⟨by have := HK1.out; omega⟩, ⟨?_⟩, ⟨?_⟩, ⟨bB HB⟩⟩ <;> (with_reducible repeat (first | refine g_d ?_ _ | refine g_e ?_ | refine g_a ?_ _ | apply r_a | apply r_d | apply r_e)) <;> first | exact BK199.out | exact HO205.out
/-! ### impl_Lock_rounded: function 35 -/
def impl_Lock_rounded.f (k : Nat) (a0_0 : Int) (a0_1 : Int) (a1 : ByteArray) : Option (List ByteArray) := if 0 ≤ (wrap64 (a0_0 - 1)) then (if (wrap64 (a0_0 - 1)) ≤ (a1.size : Int) then (if a1.size + (a1.extract 0 ((wrap64 (a0_0 - 1)) : Int).toNat).size ≤ 9223372036854775807 then ((impl_Lock_met.f k a0_0 a0_1 (a1 ++ (a1.extract 0 ((wrap64 (a0_0 - 1)) : Int).toNat))).bind fun t207 => (some t207)) else (none)) else (none)) else (none)
theorem impl_Lock_rounded.mono : ∀ a0 a1 a2 k, LeO (impl_Lock_rounded.f k a0 a1 a2) (impl_Lock_rounded.f (k + 1) a0 a1 a2) := by
  intro a0 a1 a2 k
  unfold impl_Lock_rounded.f
  repeat' first
      | (with_reducible exact impl_Lock_met.mono _ _ _ _)
      | (with_reducible exact LeO.refl _)
      | (with_reducible exact LeO.none _)
      | (with_reducible refine LeO.ite ?_ ?_)
      | (with_reducible refine LeO.bind ?_ (fun _ => ?_))
      | exact impl_Lock_met.mono _ _ _ _
      | exact LeO.none _
      | refine LeO.ite ?_ ?_
      | refine LeO.bind ?_ (fun _ => ?_)
def impl_Lock_rounded.T1 : Bool × List (List Nat × List Nat) := (true, [([], []), ([], []), ([], []), ([], []), ([3], [3]), ([4], [4]), ([2, 5], [2, 5]), ([1, 6], [1, 6]), ([0, 7], [0, 7]), ([8, 8, 0, 1, 2, 3, 4, 5, 6, 7, 8], [8])])
def impl_Lock_rounded.B1 : List Nat := [0, 0, 0, 0, 8, 24, 60, 126, 255, 511]
theorem impl_Lock_rounded.tab1 : rtab .any (opsOf Try.f35 1) = impl_Lock_rounded.T1 := by kernel_rfl
theorem impl_Lock_rounded.bits1 : waitsOk impl_Lock_rounded.T1.2 impl_Lock_rounded.B1 = true := by kernel_rfl
set_option maxHeartbeats 8000000 in
set_option maxRecDepth 100000 in
theorem impl_Lock_rounded.calls (k : Nat) (a0_0 : Int) (a0_1 : Int) (a1 : ByteArray) (r : List ByteArray) (w : World) (h : impl_Lock_rounded.f k a0_0 a0_1 a1 = some r) :
    Calls Try.prog 35 #[.agg #[.int .i64 a0_0, .int .i64 a0_1], .string a1] w fun e w' => ∃ v0_ : Value, e = .returned (v0_) ∧ Kd.R Kd.string 9 w' w.heap.size (fun _ => True) v0_ r ∧ Below w.heap.size w w' := by
  have hu26 := Try.underlying26
  have HB := Aside0.mk (Below.refl w.heap.size w)
  have H : (if 0 ≤ (wrap64 (a0_0 - 1)) then (if (wrap64 (a0_0 - 1)) ≤ (a1.size : Int) then (if a1.size + (a1.extract 0 ((wrap64 (a0_0 - 1)) : Int).toNat).size ≤ 9223372036854775807 then ((impl_Lock_met.f k a0_0 a0_1 (a1 ++ (a1.extract 0 ((wrap64 (a0_0 - 1)) : Int).toNat))).bind fun t207 => (some t207)) else (none)) else (none)) else (none)) = some r := h
  clear h
  obtain ⟨ji3, hji3⟩ : ∃ j_ : Int, (wrap64 (a0_0 - 1)) = j_ := ⟨_, rfl⟩
  replace H : (if 0 ≤ (ji3) then (if (ji3) ≤ (a1.size : Int) then (if a1.size + (a1.extract 0 ((ji3) : Int).toNat).size ≤ 9223372036854775807 then ((impl_Lock_met.f k a0_0 a0_1 (a1 ++ (a1.extract 0 ((ji3) : Int).toNat))).bind fun t207 => (some t207)) else (none)) else (none)) else (none)) = some r := by first | (rw [hji3] at H; exact H) | (simp only [hji3] at H ⊢; exact H)
  have hji3w : (IntKind.i64.wrap (a0_0 - 1)) = ji3 := (i64_w _).trans hji3
  by_cases c4 : 0 ≤ (ji3)
  rotate_left
  · rw [if_neg c4] at H
    exact absurd H (by simp)

  rw [if_pos c4] at H
  have c4b0 := eq_true c4
  have c4b1 : decide (0 ≤ (ji3)) = true := decide_eq_true c4
  clear c4
  by_cases c5 : (ji3) ≤ (a1.size : Int)
  rotate_left
  · rw [if_neg c5] at H
    exact absurd H (by simp)
  rw [if_pos c5] at H
  have c5b0 := eq_true c5
  have c5b1 : decide ((ji3) ≤ (a1.size : Int)) = true := decide_eq_true c5
  clear c5
  by_cases c6 : a1.size + (a1.extract 0 ((ji3) : Int).toNat).size ≤ 9223372036854775807
  rotate_left
  · rw [if_neg c6] at H
    exact absurd H (by simp)
  rw [if_pos c6] at H
  have c6b0 := eq_true c6
  have c6b1 : decide (a1.size + (a1.extract 0 ((ji3) : Int).toNat).size ≤ 9223372036854775807) = true := decide_eq_true c6
  try have c6b2 : (9223372036854775807 < a1.size + (a1.extract 0 ((ji3) : Int).toNat).size) = False := eq_false (Nat.not_lt.2 c6)
  have c6b3 : (9223372036854775807 < a1.size + ji3.toNat) = False := eq_false (by have e0_ : (a1.extract 0 ji3.toNat).size = ji3.toNat := (by rw [ByteArray.size_extract]; have q_ : ji3 ≤ (a1.size : Int) := of_eq_true (by assumption); omega); have h_ := c6; rw [e0_] at h_; omega)
  replace H := Option.bind_eq_some_iff.mp H
  obtain ⟨t207, A70, H⟩ := H
  try dsimp only at H
  have A7 := Aside0.mk A70
  clear A70
  obtain rfl := Option.some.inj H
  go_enter Try.func35, Try.ntmps35
  try go_wp2_with (first | ((with_reducible refine gate_dst (N := 2) rfl ?_); refine box_event ?hg (N := 2) ?hd (cs := #[.int .i64 a0_0, .int .i64 a0_1]) (t := 26) ?hr ?_; (case hd => rfl); (case hg => rfl); (case hr => first | (go_simp; done) | (go_simp; rfl)); intro gb206 hg w8 hbox hb; have n0_ := bsx hb HB; have n1_ := Aside0.mk (hbox); have n2_ := gwx hg HB; have n3_ := n2_; clear HB; have HB := n0_; have BK206 := n1_; have GW206 := n2_; have GE206 := n3_; clear n0_ n1_ n2_ n3_; clear hb hbox hg))
  have n0_ := Aside0.mk (g_e BK206.out)
  have n1_ := Aside0.mk (b_e HB.out)
  clear BK206
  clear HB
  have BK206 := n0_
  have HB := n1_
  clear n0_ n1_
  refine start_ (n := 10) (S := fun w' => w'.cell? ⟨gb206, 0, none⟩ = some (.int .i64 a0_0) ∧ w'.cell? ⟨gb206, 1, none⟩ = some (.int .i64 a0_1)) (ds := []) (bs_ 10 0) (by kernel_rfl) rfl rfl ⟨(blk_cell BK206.out 0).trans rfl, (blk_cell BK206.out 1).trans rfl⟩ (fun hHeld => ?_); refine with_tabW impl_Lock_rounded.tab1 impl_Lock_rounded.bits1 (fun HT_ HW_ => ?_)
  generalize w8.drew = w9 at BK206 HB hHeld ⊢
  refine pua 1 6 (bs_ 10 2) HT_ ?_
  refine pua 2 7 (bs_ 10 6) HT_ ?_
  refine pua 3 8 (bs_ 10 14) HT_ ?_
  refine tk_ 0 5 (bs_ 10 15) rfl rfl HT_ HW_ (by kernel_rfl) (fun _ _ _ h => h) (by rfl) hHeld (by rintro w' ⟨s0, s1⟩; go_simp; with_reducible rfl) (by simp only [Act.put, s_1, s_2, s_3, i64_w, i32_w]; rfl) ?_
  refine tk_ 4 9 (bs_ 10 31) rfl rfl HT_ HW_ (by kernel_rfl) (fun _ _ _ h => h) (by rfl) hHeld (by rintro w' ⟨s0, s1⟩; go_simp; with_reducible rfl) (by simp only [Act.put, s_1, s_2, s_3, i64_w, i32_w]; rfl) ?_
  refine pua 5 10 (bs_ 10 63) HT_ ?_
  refine pua 6 11 (bs_ 10 127) HT_ ?_
  refine pua 7 12 (bs_ 10 255) HT_ ?_
  refine one_ (i := 8) (N := some 13) (bs_ 10 511) rfl rfl (one_of HT_.out (by kernel_rfl)) (by decide) (fun K hK => ?_)
  refine goes_ Try.func61 (by kernel_rfl) rfl #[.agg #[.int .i64 a0_0, .int .i64 a0_1], .string (a1 ++ (a1.extract 0 ((ji3) : Int).toNat))] (by rfl) rfl rfl (by (try simp only [m_1, m_2, m_3]); first | done | (simp only [hji3]; rfl) | rfl | (simp only [m_4, m_5]; rfl)) ?_
  with_reducible refine (impl_Lock_met.calls k a0_0 a0_1 (a1 ++ (a1.extract 0 ((ji3) : Int).toNat)) t207 _ A7.out).mono ?_
  rintro e w10 ⟨v208, rfl, ho0, hb⟩
  refine ⟨_, rfl, ?_⟩
  have n0_ := Aside0.mk (Kd.R_lower ho0 (below_size (bB HB)))
  have n1_ := bbx hb BK206
  have n2_ := bsx hb HB
  clear BK206
  clear HB
  have HO209 := n0_
  have BK206 := n1_
  have HB := n2_
  clear n0_ n1_ n2_
  (try clear hb)
  (try clear hb2)
  (try clear hk)
  (try clear hi)
  (try clear ho0)
  refine hK.out _ _ ⟨(blk_cell BK206.out 0).trans rfl, (blk_cell BK206.out 1).trans rfl⟩ (fun hHeld => ?_)
  clear hK K
  refine norm_ (a' := ?_) ?_ ?_
  rotate_left
  · show Act.put _ (some 13) _ = _
    simp only [Act.put, s_1, s_2, s_3, i64_w, i32_w]
    rfl
  refine pua 9 4 (bs_ 10 1023) HT_ ?_
  refine done_ (done_of HT_.out (by kernel_rfl)) ?_
  try go_wp2
  go_ret
  exact ⟨_, by first | rfl | (simp [errW_none, errW_some] <;> rfl) | (simp only [← hji3]; first | rfl | (simp [errW_none, errW_some] <;> rfl)) | (simp [*, errW_none, errW_some] <;> rfl), by (with_reducible repeat (first | apply r_a | apply r_d | apply r_e)); exact HO209.out, bB HB⟩
/-! ### impl_sorted: function 58 (a text of our own) -/
/-- Texts as lists of bytes, in order, each once. -/
def impl_sorted.bs (l : List ByteArray) : List (List UInt8) := (l.map fun s => s.data.toList).mergeSort fun x y => decide (x ≤ y)
def impl_sorted.val (l : List ByteArray) : List ByteArray := (Lib.compact (impl_sorted.bs l)).map fun b => ⟨b.toArray⟩
def impl_sorted.f (l0 : List ByteArray) : Option (List ByteArray) := if l0.length ≤ 1000000000 then some (impl_sorted.val l0) else none
theorem impl_sorted.enc (l : List ByteArray) : l.map Value.string = (l.map fun s => s.data.toList).map encStr := by
  rw [List.map_map]
  refine List.map_congr_left fun s _ => ?_
  show Value.string s = Value.string ⟨s.data.toList.toArray⟩
  rw [Array.toArray_toList]
theorem impl_sorted.compact_le (zs : List (List UInt8)) : (Lib.compact zs).length ≤ zs.length := by
  unfold Lib.compact Lib.compactUpTo
  rw [List.length_map]
  exact Nat.le_trans (List.length_filter_le _ _) (by simp)
theorem impl_sorted.take_less {cur : Array Value} {m : Nat} {ts us : List (List UInt8)} (h : ts.length + us.length ≤ cur.size) (hm : m = ts.length) : (Go.Sort.putCells encStr 0 (ts ++ us).toArray cur).toList.take (m * 1) = ts.map encStr := by
  have h1 := take_putCells cur (ts ++ us) (by rw [List.length_append]; exact h)
  have h2 := congrArg (List.take m) h1
  rw [List.take_take, List.length_append, Nat.min_eq_left (by omega), List.map_append, List.take_left' (by rw [List.length_map]; exact hm.symm)] at h2
  rw [Nat.mul_one]
  exact h2
/-- What the row is behind both calls. -/
theorem impl_sorted.last {P0_ : Nat → Prop} {w0 w : World} {g cap : Nat} {cur : Array Value} {l : List ByteArray} {n q : Nat} {os : Array Obj} (hB : Below w0.heap.size w0 w) (hle : w0.heap.size ≤ g) (hP : P0_ g)
    (hb : w.heap[g]? = some (.cells cur 9 (0, 0))) (hlen : l.length ≤ cap) (hmax : cap ≤ maxLen) (hsz : cur.size = cap * 1) :
    let w1 := Go.Sort.grow (Go.Sort.putRow encStr (Go.Sort.ahead w n) g 0 (impl_sorted.bs l).toArray) os
    let w2 := Go.Sort.putRow encStr (Go.Sort.ahead w1 q) g 0 (Lib.compact (impl_sorted.bs l) ++ List.replicate ((impl_sorted.bs l).length - (Lib.compact (impl_sorted.bs l)).length) []).toArray
    Kd.R Kd.string 9 w2 w0.heap.size (fun k_ => (P0_ k_ ∨ w.heap.size ≤ k_)) (.slice (some ⟨g, 0, none⟩) (Lib.compact (impl_sorted.bs l)).length cap) (impl_sorted.val l) ∧ Below w0.heap.size w0 w2 ∧ Kept w w2 (fun k_ => P0_ k_) := by
  intro w1 w2
  have hbl : (impl_sorted.bs l).length = l.length := by unfold impl_sorted.bs; rw [List.length_mergeSort, List.length_map]
  have hcl := impl_sorted.compact_le (impl_sorted.bs l)
  have e2 : w2 = Go.Sort.grow w2 #[] := by simp
  have g1 : w.grownBy w1 (some g) := grownBy_sorted _
  have g2 : w1.grownBy w2 (some g) := by rw [e2]; exact grownBy_sorted _
  have h1 : w1.heap[g]? = some (.cells (Go.Sort.putCells encStr 0 (impl_sorted.bs l).toArray cur) 9 (0, 0)) := heap_sorted _ hb
  have h2 : w2.heap[g]? = some (.cells (Go.Sort.putCells encStr 0 (Lib.compact (impl_sorted.bs l) ++ List.replicate ((impl_sorted.bs l).length - (Lib.compact (impl_sorted.bs l)).length) []).toArray (Go.Sort.putCells encStr 0 (impl_sorted.bs l).toArray cur)) 9 (0, 0)) := by rw [e2]; exact heap_sorted _ h1
  refine ⟨?_, ?_, ?_⟩
  · refine Kd.R_of_own (enc := Value.string) ?_ (fun k hk => .inl (by have e_ : some g = some k := hk; cases e_; exact hP))
    have el : (impl_sorted.val l).length = (Lib.compact (impl_sorted.bs l)).length := by unfold impl_sorted.val; rw [List.length_map]
    rw [el]
    have ee : encs Value.string (impl_sorted.val l) = (Lib.compact (impl_sorted.bs l)).map encStr := by unfold encs impl_sorted.val; rw [List.map_map]; rfl
    rw [ee]
    refine ⟨by simp, .inr ⟨g, cap, _, rfl, hle, h2, by omega, hmax, by simp [Go.Sort.putCells, hsz], ?_⟩⟩
    exact impl_sorted.take_less (by simp [Go.Sort.putCells, hsz]; omega) rfl
  · exact (hB.grown g1 hB.size (fun k e => by cases e; exact hle)).grown g2 (hB.grown g1 hB.size (fun k e => by cases e; exact hle)).size (fun k e => by cases e; exact hle)
  · exact Kept.of_grown g2 (Kept.of_grown g1 (Kept.refl w _) (fun k e => by cases e; exact .inl hP)) (fun k e => by cases e; exact .inl hP)
set_option maxHeartbeats 1000000 in
set_option maxRecDepth 100000 in
theorem impl_sorted.calls (P0_ : Nat → Prop) (u9000_ : Value) (l0 : List ByteArray) (r : List ByteArray) (w0 w : World) (hB : Below w0.heap.size w0 w) (ho0 : Kd.R Kd.string 9 w w0.heap.size P0_ u9000_ l0) (h : impl_sorted.f l0 = some r) :
    Calls Try.prog 58 #[u9000_] w fun e w' => ∃ v0_ : Value, e = .returned (v0_) ∧ Kd.R Kd.string 9 w' w0.heap.size (fun k_ => (P0_ k_ ∨ w.heap.size ≤ k_)) v0_ r ∧ Below w0.heap.size w0 w' ∧ Kept w w' (fun k_ => P0_ k_) := by
  unfold impl_sorted.f at h
  by_cases hn : l0.length ≤ 1000000000
  · rw [if_pos hn] at h
    obtain rfl := Option.some.inj h
    clear h
    have own := Kd.own_of_R ho0
    rcases own.2 with ⟨hu, h0⟩ | ⟨g, cap, cur, hu, hle, hb, hlen, hmax, hsz, htake⟩
    · subst hu
      obtain rfl : l0 = [] := List.length_eq_zero_iff.mp h0
      have c1 := Aside0.mk (Try.slices_Sort_string_none none 0 w)
      have c2 := Aside0.mk (Try.slices_Compact_string_empty none 0 w)
      have hv : impl_sorted.val [] = [] := by unfold impl_sorted.val impl_sorted.bs; simp [Lib.compact, Lib.compactUpTo]
      rw [hv]
      have fin := Aside0.mk (And.intro (Kd.R_mono ho0 (ok' := fun k_ => (P0_ k_ ∨ w.heap.size ≤ k_)) (fun k hk => .inl hk)) (And.intro hB (Kept.refl w (fun k_ => P0_ k_))))
      clear hv
      clear own ho0 hB hn h0
      go_enter Try.func58, Try.ntmps58
      go_wp2_with (first | (go_at_call 72; (with_reducible refine c1.out.mono ?_); rintro e w' ⟨rfl, rfl⟩) | (go_at_call 73; (with_reducible refine c2.out.mono ?_); rintro e w' ⟨rfl, rfl⟩))
      go_ret
      exact ⟨_, rfl, fin.out⟩
    · subst hu
      have hP : P0_ g := ho0.1 g rfl
      have hblk : g < w.heap.size := (Array.getElem?_eq_some_iff.1 hb).1
      have hbl : (impl_sorted.bs l0).length = l0.length := by unfold impl_sorted.bs; rw [List.length_mergeSort, List.length_map]
      have hH : Go.Sort.Holds encStr w g 0 (l0.map fun s => s.data.toList).toArray := holds_of_block hb (by rw [List.length_map, ← impl_sorted.enc]; rw [Nat.mul_one] at htake; exact htake)
      have c1 := Try.slices_Sort_string g 0 cap (l0.map fun s => s.data.toList) w hH hblk (by rw [List.length_map]; omega)
      rw [List.length_map] at c1
      have C1 := Aside0.mk c1
      have C2 : Aside0 (∀ n os, Calls Try.prog 73 #[.slice (some ⟨g, 0, none⟩) l0.length cap] (Go.Sort.grow (Go.Sort.putRow encStr (Go.Sort.ahead w n) g 0 (impl_sorted.bs l0).toArray) os) fun e w' => e = .returned (.slice (some ⟨g, 0, none⟩) (Lib.compact (impl_sorted.bs l0)).length cap) ∧ ∃ q, w' = Go.Sort.putRow encStr (Go.Sort.ahead (Go.Sort.grow (Go.Sort.putRow encStr (Go.Sort.ahead w n) g 0 (impl_sorted.bs l0).toArray) os) q) g 0 (Lib.compact (impl_sorted.bs l0) ++ List.replicate ((impl_sorted.bs l0).length - (Lib.compact (impl_sorted.bs l0)).length) []).toArray) := ⟨fun n os => by
        have hh : Go.Sort.Holds encStr (Go.Sort.grow (Go.Sort.putRow encStr (Go.Sort.ahead w n) g 0 (impl_sorted.bs l0).toArray) os) g 0 (impl_sorted.bs l0).toArray := holds_of_block (heap_sorted _ hb) (take_putCells cur _ (by omega))
        have := Try.slices_Compact_string g 0 cap (impl_sorted.bs l0) _ hh (by omega) (by omega)
        rw [hbl] at this ⊢
        exact this⟩
      have FIN := Aside0.mk (fun n q os => impl_sorted.last (l := l0) (n := n) (q := q) (os := os) hB hle hP hb hlen hmax hsz)
      clear c1 hH hbl hblk hP own ho0 hB hn hle hb hlen hmax hsz htake
      go_enter Try.func58, Try.ntmps58
      go_wp2_with (first | (go_at_call 72; (with_reducible refine C1.out.mono ?_); rintro e w' ⟨rfl, n, os, rfl⟩) | (go_at_call 73; refine (C2.out n os).mono ?_; rintro e w' ⟨rfl, q, rfl⟩))
      go_ret
      exact ⟨_, rfl, FIN.out n q os⟩
  · rw [if_neg hn] at h; exact absurd h (by simp)


/-! ### impl_isRing: function 33 -/
def impl_isRing.f (k : Nat) (a0_0 : Int) (a0_1 : Int) (a1 : ByteArray) : Option (Bool) := (impl_isRounded.f k a0_0 a0_1).bind fun t345 => (if t345 = true then ((impl_Lock_count.f k a0_0 a0_1).bind fun t346 => (if (a1.size : Int) = t346 then ((impl_Lock_isText.f k a0_0 a0_1 a1).bind fun t347 => (if t347 = true then ((impl_Lock_rounded.f k a0_0 a0_1 a1).bind fun t348 => ((impl_sorted.f t348).bind fun t351 => ((impl_Lock_count.f k a0_0 a0_1).bind fun t354 => (some ((t351.length : Int) == t354))))) else (some false))) else (some false))) else (some false))
theorem impl_isRing.mono : ∀ a0 a1 a2 k, LeO (impl_isRing.f k a0 a1 a2) (impl_isRing.f (k + 1) a0 a1 a2) := by
  intro a0 a1 a2 k
  unfold impl_isRing.f
  repeat' first
      | (with_reducible exact impl_Lock_count.mono _ _ _)
      | (with_reducible exact impl_Lock_isText.mono _ _ _ _)
      | (with_reducible exact impl_Lock_rounded.mono _ _ _ _)
      | (with_reducible exact impl_isRounded.mono _ _ _)
      | (with_reducible exact LeO.refl _)
      | (with_reducible exact LeO.none _)
      | (with_reducible refine LeO.ite ?_ ?_)
      | (with_reducible refine LeO.bind ?_ (fun _ => ?_))
      | exact impl_Lock_count.mono _ _ _
      | exact impl_Lock_isText.mono _ _ _ _
      | exact impl_Lock_rounded.mono _ _ _ _
      | exact impl_isRounded.mono _ _ _
      | exact LeO.none _
      | refine LeO.ite ?_ ?_
      | refine LeO.bind ?_ (fun _ => ?_)
def impl_isRing.T1 : Bool × List (List Nat × List Nat) := (true, [([], []), ([0], [0]), ([1, 1], [1]), ([2], [2]), ([3, 2], [2, 3]), ([2], [2]), ([5, 2, 2], [2, 5]), ([4, 6, 2], [2, 4, 6]), ([2, 7], [2, 7]), ([8, 6], [8]), ([9], [9]), ([9], [9]), ([10, 11, 9, 9], [9, 10, 11]), ([9, 12], [9, 12]), ([13, 12], [13]), ([14], [14]), ([14], [14]), ([15, 16, 14, 14], [14, 15, 16]), ([17, 17, 14], [14, 17]), ([18, 14], [14, 18]), ([14], [14]), ([20, 18, 14], [14, 20]), ([19, 21, 14], [14, 19, 21]), ([14, 22], [14, 22]), ([23, 21, 0, 1, 2, 3, 4, 5, 6, 7, 8, 9, 10, 11, 12, 13, 14, 15, 16, 17, 18, 19, 20, 21, 22, 23], [23])])
def impl_isRing.B1 : List Nat := [0, 1, 3, 7, 15, 7, 39, 127, 255, 511, 1023, 1023, 4095, 8191, 16383, 32767, 32767, 131071, 262143, 524287, 32767, 1572863, 4194303, 8388607, 16777215]
theorem impl_isRing.tab1 : rtab .any (opsOf Try.f33 1) = impl_isRing.T1 := by kernel_rfl
theorem impl_isRing.bits1 : waitsOk impl_isRing.T1.2 impl_isRing.B1 = true := by kernel_rfl
set_option maxHeartbeats 8000000 in
set_option maxRecDepth 100000 in
theorem impl_isRing.calls (k : Nat) (a0_0 : Int) (a0_1 : Int) (a1 : ByteArray) (r : Bool) (w : World) (h : impl_isRing.f k a0_0 a0_1 a1 = some r) :
    Calls Try.prog 33 #[.agg #[.int .i64 a0_0, .int .i64 a0_1], .string a1] w fun e w' => e = .returned (.bool r) ∧ Below w.heap.size w w' := by
  have hu26 := Try.underlying26
  have HB := Aside0.mk (Below.refl w.heap.size w)
  have H : ((impl_isRounded.f k a0_0 a0_1).bind fun t345 => (if t345 = true then ((impl_Lock_count.f k a0_0 a0_1).bind fun t346 => (if (a1.size : Int) = t346 then ((impl_Lock_isText.f k a0_0 a0_1 a1).bind fun t347 => (if t347 = true then ((impl_Lock_rounded.f k a0_0 a0_1 a1).bind fun t348 => ((impl_sorted.f t348).bind fun t351 => ((impl_Lock_count.f k a0_0 a0_1).bind fun t354 => (some ((t351.length : Int) == t354))))) else (some false))) else (some false))) else (some false))) = some r := h
  clear h
  replace H := Option.bind_eq_some_iff.mp H
  obtain ⟨t345, A30, H⟩ := H
  try dsimp only at H
  have A3 := Aside0.mk A30
  clear A30
  by_cases c4 : t345 = true
  rotate_left
  · replace c4 := Bool.eq_false_iff.mpr c4
    subst c4
    rw [if_neg (show ¬ (false = true) by decide)] at H
    obtain rfl := Option.some.inj H
    go_enter Try.func33, Try.ntmps33
    try go_wp2_with (first | ((with_reducible refine gate_dst (N := 2) rfl ?_); (try (refine gate_guard (by rfl) ?_; dsimp only)); refine box_event ?hg (N := 2) ?hd (cs := #[.int .i64 a0_0, .int .i64 a0_1]) (t := 26) ?hr ?_; (case hd => rfl); (case hg => rfl); (case hr => first | (go_simp; done) | (go_simp; rfl)); intro gb344 hg w31 hbox hb; have n0_ := bsx hb HB; have n1_ := Aside0.mk (hbox); have n2_ := gwx hg HB; have n3_ := n2_; clear HB; have HB := n0_; have BK344 := n1_; have GW344 := n2_; have GE344 := n3_; clear n0_ n1_ n2_ n3_; clear hb hbox hg))
    have n0_ := Aside0.mk (g_e BK344.out)
    have n1_ := Aside0.mk (b_e HB.out)
    clear BK344
    clear HB
    have BK344 := n0_
    have HB := n1_
    clear n0_ n1_
    refine start_ (n := 25) (S := fun w' => w'.cell? ⟨gb344, 0, none⟩ = some (.int .i64 a0_0) ∧ w'.cell? ⟨gb344, 1, none⟩ = some (.int .i64 a0_1)) (ds := []) (bs_ 25 0) (by kernel_rfl) rfl rfl ⟨(blk_cell BK344.out 0).trans rfl, (blk_cell BK344.out 1).trans rfl⟩ (fun hHeld => ?_); refine with_tabW impl_isRing.tab1 impl_isRing.bits1 (fun HT_ HW_ => ?_)
    generalize w31.drew = w32 at BK344 HB hHeld ⊢
    refine tk_ 0 5 (bs_ 25 1) rfl rfl HT_ HW_ (by kernel_rfl) (fun _ _ _ h => h) (by rfl) hHeld (by rintro w' ⟨s0, s1⟩; go_simp; with_reducible rfl) (by simp only [Act.put, s_1, s_2, s_3, i64_w, i32_w]; rfl) ?_
    refine one_ (i := 1) (N := some 6) (bs_ 25 3) rfl rfl (one_of HT_.out (by kernel_rfl)) (by decide) (fun K hK => ?_)
    refine goes_ Try.func29 (by kernel_rfl) rfl #[.agg #[.int .i64 a0_0, .int .i64 a0_1]] (by rfl) rfl rfl (by (try simp only [m_1, m_2, m_3]); first | done | rfl | (simp only [m_4, m_5]; rfl)) ?_
    with_reducible refine (impl_isRounded.calls k a0_0 a0_1 false _ A3.out).mono ?_
    rintro e w33 ⟨rfl, hb⟩
    refine ⟨_, rfl, ?_⟩
    have n0_ := bbx hb BK344
    have n1_ := bsx hb HB
    clear BK344
    clear HB
    have BK344 := n0_
    have HB := n1_
    clear n0_ n1_
    (try clear hb)
    (try clear hb2)
    (try clear hk)
    (try clear hi)
    refine hK.out _ _ ⟨(blk_cell BK344.out 0).trans rfl, (blk_cell BK344.out 1).trans rfl⟩ (fun hHeld => ?_)
    clear hK K
    refine norm_ (a' := ?_) ?_ ?_
    rotate_left
    · show Act.put _ (some 6) _ = _
      simp only [Act.put, s_1, s_2, s_3, i64_w, i32_w]
      rfl
    refine pua 2 7 (bs_ 25 7) HT_ ?_
    refine pv_ 3 8 (bs_ 25 15) rfl rfl HT_ (by kernel_rfl) (fun _ _ _ h => h) (by rfl) (by simp only [Act.put, s_1, s_2, s_3, i64_w, i32_w]; rfl) ?_
    refine pv_ 4 9 (bs_ 25 31) rfl rfl HT_ (by kernel_rfl) (fun _ _ _ h => h) (by rfl) (by simp only [Act.put, s_1, s_2, s_3, i64_w, i32_w]; rfl) ?_
    refine pv_ 5 10 (bs_ 25 63) rfl rfl HT_ (by kernel_rfl) (fun _ _ _ h => h) (by rfl) (by simp only [Act.put, s_1, s_2, s_3, i64_w, i32_w]; rfl) ?_
    refine pv_ 6 11 (bs_ 25 127) rfl rfl HT_ (by kernel_rfl) (fun _ _ _ h => h) (by rfl) (by simp only [Act.put, s_1, s_2, s_3, i64_w, i32_w]; rfl) ?_
    refine pv_ 7 12 (bs_ 25 255) rfl rfl HT_ (by kernel_rfl) (fun _ _ _ h => h) (by rfl) (by simp only [Act.put, s_1, s_2, s_3, i64_w, i32_w]; rfl) ?_
    refine pua 8 13 (bs_ 25 511) HT_ ?_
    refine pua 9 14 (bs_ 25 1023) HT_ ?_
    refine pv_ 10 15 (bs_ 25 2047) rfl rfl HT_ (by kernel_rfl) (fun _ _ _ h => h) (by rfl) (by simp only [Act.put, s_1, s_2, s_3, i64_w, i32_w]; rfl) ?_
    refine pv_ 11 16 (bs_ 25 4095) rfl rfl HT_ (by kernel_rfl) (fun _ _ _ h => h) (by rfl) (by simp only [Act.put, s_1, s_2, s_3, i64_w, i32_w]; rfl) ?_
    refine pv_ 12 17 (bs_ 25 8191) rfl rfl HT_ (by kernel_rfl) (fun _ _ _ h => h) (by rfl) (by simp only [Act.put, s_1, s_2, s_3, i64_w, i32_w]; rfl) ?_
    refine pua 13 18 (bs_ 25 16383) HT_ ?_
    refine pua 14 19 (bs_ 25 32767) HT_ ?_
    refine pv_ 15 20 (bs_ 25 65535) rfl rfl HT_ (by kernel_rfl) (fun _ _ _ h => h) (by rfl) (by simp only [Act.put, s_1, s_2, s_3, i64_w, i32_w]; rfl) ?_
    refine pv_ 16 21 (bs_ 25 131071) rfl rfl HT_ (by kernel_rfl) (fun _ _ _ h => h) (by rfl) (by simp only [Act.put, s_1, s_2, s_3, i64_w, i32_w]; rfl) ?_
    refine pv_ 17 22 (bs_ 25 262143) rfl rfl HT_ (by kernel_rfl) (fun _ _ _ h => h) (by rfl) (by simp only [Act.put, s_1, s_2, s_3, i64_w, i32_w]; rfl) ?_
    refine pv_ 18 23 (bs_ 25 524287) rfl rfl HT_ (by kernel_rfl) (fun _ _ _ h => h) (by rfl) (by simp only [Act.put, s_1, s_2, s_3, i64_w, i32_w]; rfl) ?_
    refine pv_ 19 24 (bs_ 25 1048575) rfl rfl HT_ (by kernel_rfl) (fun _ _ _ h => h) (by rfl) (by simp only [Act.put, s_1, s_2, s_3, i64_w, i32_w]; rfl) ?_
    refine pv_ 20 25 (bs_ 25 2097151) rfl rfl HT_ (by kernel_rfl) (fun _ _ _ h => h) (by rfl) (by simp only [Act.put, s_1, s_2, s_3, i64_w, i32_w]; rfl) ?_
    refine pv_ 21 26 (bs_ 25 4194303) rfl rfl HT_ (by kernel_rfl) (fun _ _ _ h => h) (by rfl) (by simp only [Act.put, s_1, s_2, s_3, i64_w, i32_w]; rfl) ?_
    refine pv_ 22 27 (bs_ 25 8388607) rfl rfl HT_ (by kernel_rfl) (fun _ _ _ h => h) (by rfl) (by simp only [Act.put, s_1, s_2, s_3, i64_w, i32_w]; rfl) ?_
    refine pua 23 28 (bs_ 25 16777215) HT_ ?_
    refine pua 24 4 (bs_ 25 33554431) HT_ ?_
    refine done_ (done_of HT_.out (by kernel_rfl)) ?_
    try go_wp2
    go_ret
    exact ⟨by first | rfl | (simp [errW_none, errW_some] <;> rfl) | (simp [*, errW_none, errW_some] <;> rfl), bB HB⟩

  subst c4
  rw [if_pos rfl] at H
  replace H := Option.bind_eq_some_iff.mp H
  obtain ⟨t346, A50, H⟩ := H
  try dsimp only at H
  have A5 := Aside0.mk A50
  clear A50
  by_cases c6 : (a1.size : Int) = t346
  rotate_left
  · rw [if_neg c6] at H
    have c6b0 : ((a1.size : Int) == t346) = false := beq_eq_false_iff_ne.mpr c6
    have c6b1 : ((a1.size : Int) != t346) = true := bne_iff_ne.mpr c6
    obtain rfl := Option.some.inj H
    go_enter Try.func33, Try.ntmps33
    try go_wp2_with (first | ((with_reducible refine gate_dst (N := 2) rfl ?_); (try (refine gate_guard (by rfl) ?_; dsimp only)); refine box_event ?hg (N := 2) ?hd (cs := #[.int .i64 a0_0, .int .i64 a0_1]) (t := 26) ?hr ?_; (case hd => rfl); (case hg => rfl); (case hr => first | (go_simp; done) | (go_simp; rfl)); intro gb344 hg w27 hbox hb; have n0_ := bsx hb HB; have n1_ := Aside0.mk (hbox); have n2_ := gwx hg HB; have n3_ := n2_; clear HB; have HB := n0_; have BK344 := n1_; have GW344 := n2_; have GE344 := n3_; clear n0_ n1_ n2_ n3_; clear hb hbox hg))
    have n0_ := Aside0.mk (g_e BK344.out)
    have n1_ := Aside0.mk (b_e HB.out)
    clear BK344
    clear HB
    have BK344 := n0_
    have HB := n1_
    clear n0_ n1_
    refine start_ (n := 25) (S := fun w' => w'.cell? ⟨gb344, 0, none⟩ = some (.int .i64 a0_0) ∧ w'.cell? ⟨gb344, 1, none⟩ = some (.int .i64 a0_1)) (ds := []) (bs_ 25 0) (by kernel_rfl) rfl rfl ⟨(blk_cell BK344.out 0).trans rfl, (blk_cell BK344.out 1).trans rfl⟩ (fun hHeld => ?_); refine with_tabW impl_isRing.tab1 impl_isRing.bits1 (fun HT_ HW_ => ?_)
    generalize w27.drew = w28 at BK344 HB hHeld ⊢
    refine tk_ 0 5 (bs_ 25 1) rfl rfl HT_ HW_ (by kernel_rfl) (fun _ _ _ h => h) (by rfl) hHeld (by rintro w' ⟨s0, s1⟩; go_simp; with_reducible rfl) (by simp only [Act.put, s_1, s_2, s_3, i64_w, i32_w]; rfl) ?_
    refine one_ (i := 1) (N := some 6) (bs_ 25 3) rfl rfl (one_of HT_.out (by kernel_rfl)) (by decide) (fun K hK => ?_)
    refine goes_ Try.func29 (by kernel_rfl) rfl #[.agg #[.int .i64 a0_0, .int .i64 a0_1]] (by rfl) rfl rfl (by (try simp only [m_1, m_2, m_3]); first | done | rfl | (simp only [m_4, m_5]; rfl)) ?_
    with_reducible refine (impl_isRounded.calls k a0_0 a0_1 true _ A3.out).mono ?_
    rintro e w29 ⟨rfl, hb⟩
    refine ⟨_, rfl, ?_⟩
    have n0_ := bbx hb BK344
    have n1_ := bsx hb HB
    clear BK344
    clear HB
    have BK344 := n0_
    have HB := n1_
    clear n0_ n1_
    (try clear hb)
    (try clear hb2)
    (try clear hk)
    (try clear hi)
    refine hK.out _ _ ⟨(blk_cell BK344.out 0).trans rfl, (blk_cell BK344.out 1).trans rfl⟩ (fun hHeld => ?_)
    clear hK K
    refine norm_ (a' := ?_) ?_ ?_
    rotate_left
    · show Act.put _ (some 6) _ = _
      simp only [Act.put, s_1, s_2, s_3, i64_w, i32_w]
      rfl
    refine pua 2 7 (bs_ 25 7) HT_ ?_
    refine pua 3 8 (bs_ 25 15) HT_ ?_
    refine pua 4 9 (bs_ 25 31) HT_ ?_
    refine tk_ 5 10 (bs_ 25 63) rfl rfl HT_ HW_ (by kernel_rfl) (fun _ _ _ h => h) (by rfl) hHeld (by rintro w' ⟨s0, s1⟩; go_simp; with_reducible rfl) (by simp only [Act.put, s_1, s_2, s_3, i64_w, i32_w]; rfl) ?_
    refine one_ (i := 6) (N := some 11) (bs_ 25 127) rfl rfl (one_of HT_.out (by kernel_rfl)) (by decide) (fun K hK => ?_)
    refine goes_ Try.func39 (by kernel_rfl) rfl #[.agg #[.int .i64 a0_0, .int .i64 a0_1]] (by rfl) rfl rfl (by (try simp only [m_1, m_2, m_3]); first | done | rfl | (simp only [m_4, m_5]; rfl)) ?_
    with_reducible refine (impl_Lock_count.calls k a0_0 a0_1 t346 _ A5.out).mono ?_
    rintro e w30 ⟨rfl, hb⟩
    refine ⟨_, rfl, ?_⟩
    have n0_ := bbx hb BK344
    have n1_ := bsx hb HB
    clear BK344
    clear HB
    have BK344 := n0_
    have HB := n1_
    clear n0_ n1_
    (try clear hb)
    (try clear hb2)
    (try clear hk)
    (try clear hi)
    refine hK.out _ _ ⟨(blk_cell BK344.out 0).trans rfl, (blk_cell BK344.out 1).trans rfl⟩ (fun hHeld => ?_)
    clear hK K
    refine norm_ (a' := ?_) ?_ ?_
    rotate_left
    · show Act.put _ (some 11) _ = _
      simp only [Act.put, s_1, s_2, s_3, i64_w, i32_w]
      rfl
    refine pua 7 12 (bs_ 25 255) HT_ ?_
    refine pua 8 13 (bs_ 25 511) HT_ ?_
    refine pua 9 14 (bs_ 25 1023) HT_ ?_
    refine pv_ 10 15 (bs_ 25 2047) rfl rfl HT_ (by kernel_rfl) (fun _ _ _ h => h) (by rfl) (by simp only [Act.put, s_1, s_2, s_3, i64_w, i32_w]; rfl) ?_
    refine pv_ 11 16 (bs_ 25 4095) rfl rfl HT_ (by kernel_rfl) (fun _ _ _ h => h) (by rfl) (by simp only [Act.put, s_1, s_2, s_3, i64_w, i32_w]; rfl) ?_
    refine pv_ 12 17 (bs_ 25 8191) rfl rfl HT_ (by kernel_rfl) (fun _ _ _ h => h) (by rfl) (by simp only [Act.put, s_1, s_2, s_3, i64_w, i32_w]; rfl) ?_
    refine pua 13 18 (bs_ 25 16383) HT_ ?_
    refine pua 14 19 (bs_ 25 32767) HT_ ?_
    refine pv_ 15 20 (bs_ 25 65535) rfl rfl HT_ (by kernel_rfl) (fun _ _ _ h => h) (by rfl) (by simp only [Act.put, s_1, s_2, s_3, i64_w, i32_w]; rfl) ?_
    refine pv_ 16 21 (bs_ 25 131071) rfl rfl HT_ (by kernel_rfl) (fun _ _ _ h => h) (by rfl) (by simp only [Act.put, s_1, s_2, s_3, i64_w, i32_w]; rfl) ?_
    refine pv_ 17 22 (bs_ 25 262143) rfl rfl HT_ (by kernel_rfl) (fun _ _ _ h => h) (by rfl) (by simp only [Act.put, s_1, s_2, s_3, i64_w, i32_w]; rfl) ?_
    refine pv_ 18 23 (bs_ 25 524287) rfl rfl HT_ (by kernel_rfl) (fun _ _ _ h => h) (by rfl) (by simp only [Act.put, s_1, s_2, s_3, i64_w, i32_w]; rfl) ?_
    refine pv_ 19 24 (bs_ 25 1048575) rfl rfl HT_ (by kernel_rfl) (fun _ _ _ h => h) (by rfl) (by simp only [Act.put, s_1, s_2, s_3, i64_w, i32_w]; rfl) ?_
    refine pv_ 20 25 (bs_ 25 2097151) rfl rfl HT_ (by kernel_rfl) (fun _ _ _ h => h) (by rfl) (by simp only [Act.put, s_1, s_2, s_3, i64_w, i32_w]; rfl) ?_
    refine pv_ 21 26 (bs_ 25 4194303) rfl rfl HT_ (by kernel_rfl) (fun _ _ _ h => h) (by rfl) (by simp only [Act.put, s_1, s_2, s_3, i64_w, i32_w]; rfl) ?_
    refine pv_ 22 27 (bs_ 25 8388607) rfl rfl HT_ (by kernel_rfl) (fun _ _ _ h => h) (by rfl) (by simp only [Act.put, s_1, s_2, s_3, i64_w, i32_w]; rfl) ?_
    refine pua 23 28 (bs_ 25 16777215) HT_ ?_
    refine pua 24 4 (bs_ 25 33554431) HT_ ?_
    refine done_ (done_of HT_.out (by kernel_rfl)) ?_
    try go_wp2
    go_ret
    exact ⟨by first | rfl | (simp [errW_none, errW_some] <;> rfl) | (simp [*, errW_none, errW_some] <;> rfl), bB HB⟩
  rw [if_pos c6] at H
  have c6b0 : ((a1.size : Int) == t346) = true := beq_iff_eq.mpr c6
  have c6b1 : ((a1.size : Int) != t346) = false := bne_eq_false_iff_eq.mpr c6
  clear c6
  replace H := Option.bind_eq_some_iff.mp H
  obtain ⟨t347, A70, H⟩ := H
  try dsimp only at H
  have A7 := Aside0.mk A70
  clear A70
  by_cases c8 : t347 = true
  rotate_left
  · replace c8 := Bool.eq_false_iff.mpr c8
    subst c8
    rw [if_neg (show ¬ (false = true) by decide)] at H
    obtain rfl := Option.some.inj H
    go_enter Try.func33, Try.ntmps33
    try go_wp2_with (first | ((with_reducible refine gate_dst (N := 2) rfl ?_); (try (refine gate_guard (by rfl) ?_; dsimp only)); refine box_event ?hg (N := 2) ?hd (cs := #[.int .i64 a0_0, .int .i64 a0_1]) (t := 26) ?hr ?_; (case hd => rfl); (case hg => rfl); (case hr => first | (go_simp; done) | (go_simp; rfl)); intro gb344 hg w22 hbox hb; have n0_ := bsx hb HB; have n1_ := Aside0.mk (hbox); have n2_ := gwx hg HB; have n3_ := n2_; clear HB; have HB := n0_; have BK344 := n1_; have GW344 := n2_; have GE344 := n3_; clear n0_ n1_ n2_ n3_; clear hb hbox hg))
    have n0_ := Aside0.mk (g_e BK344.out)
    have n1_ := Aside0.mk (b_e HB.out)
    clear BK344
    clear HB
    have BK344 := n0_
    have HB := n1_
    clear n0_ n1_
    refine start_ (n := 25) (S := fun w' => w'.cell? ⟨gb344, 0, none⟩ = some (.int .i64 a0_0) ∧ w'.cell? ⟨gb344, 1, none⟩ = some (.int .i64 a0_1)) (ds := []) (bs_ 25 0) (by kernel_rfl) rfl rfl ⟨(blk_cell BK344.out 0).trans rfl, (blk_cell BK344.out 1).trans rfl⟩ (fun hHeld => ?_); refine with_tabW impl_isRing.tab1 impl_isRing.bits1 (fun HT_ HW_ => ?_)
    generalize w22.drew = w23 at BK344 HB hHeld ⊢
    refine tk_ 0 5 (bs_ 25 1) rfl rfl HT_ HW_ (by kernel_rfl) (fun _ _ _ h => h) (by rfl) hHeld (by rintro w' ⟨s0, s1⟩; go_simp; with_reducible rfl) (by simp only [Act.put, s_1, s_2, s_3, i64_w, i32_w]; rfl) ?_
    refine one_ (i := 1) (N := some 6) (bs_ 25 3) rfl rfl (one_of HT_.out (by kernel_rfl)) (by decide) (fun K hK => ?_)
    refine goes_ Try.func29 (by kernel_rfl) rfl #[.agg #[.int .i64 a0_0, .int .i64 a0_1]] (by rfl) rfl rfl (by (try simp only [m_1, m_2, m_3]); first | done | rfl | (simp only [m_4, m_5]; rfl)) ?_
    with_reducible refine (impl_isRounded.calls k a0_0 a0_1 true _ A3.out).mono ?_
    rintro e w24 ⟨rfl, hb⟩
    refine ⟨_, rfl, ?_⟩
    have n0_ := bbx hb BK344
    have n1_ := bsx hb HB
    clear BK344
    clear HB
    have BK344 := n0_
    have HB := n1_
    clear n0_ n1_
    (try clear hb)
    (try clear hb2)
    (try clear hk)
    (try clear hi)
    refine hK.out _ _ ⟨(blk_cell BK344.out 0).trans rfl, (blk_cell BK344.out 1).trans rfl⟩ (fun hHeld => ?_)
    clear hK K
    refine norm_ (a' := ?_) ?_ ?_
    rotate_left
    · show Act.put _ (some 6) _ = _
      simp only [Act.put, s_1, s_2, s_3, i64_w, i32_w]
      rfl
    refine pua 2 7 (bs_ 25 7) HT_ ?_
    refine pua 3 8 (bs_ 25 15) HT_ ?_
    refine pua 4 9 (bs_ 25 31) HT_ ?_
    refine tk_ 5 10 (bs_ 25 63) rfl rfl HT_ HW_ (by kernel_rfl) (fun _ _ _ h => h) (by rfl) hHeld (by rintro w' ⟨s0, s1⟩; go_simp; with_reducible rfl) (by simp only [Act.put, s_1, s_2, s_3, i64_w, i32_w]; rfl) ?_
    refine one_ (i := 6) (N := some 11) (bs_ 25 127) rfl rfl (one_of HT_.out (by kernel_rfl)) (by decide) (fun K hK => ?_)
    refine goes_ Try.func39 (by kernel_rfl) rfl #[.agg #[.int .i64 a0_0, .int .i64 a0_1]] (by rfl) rfl rfl (by (try simp only [m_1, m_2, m_3]); first | done | rfl | (simp only [m_4, m_5]; rfl)) ?_
    with_reducible refine (impl_Lock_count.calls k a0_0 a0_1 t346 _ A5.out).mono ?_
    rintro e w25 ⟨rfl, hb⟩
    refine ⟨_, rfl, ?_⟩
    have n0_ := bbx hb BK344
    have n1_ := bsx hb HB
    clear BK344
    clear HB
    have BK344 := n0_
    have HB := n1_
    clear n0_ n1_
    (try clear hb)
    (try clear hb2)
    (try clear hk)
    (try clear hi)
    refine hK.out _ _ ⟨(blk_cell BK344.out 0).trans rfl, (blk_cell BK344.out 1).trans rfl⟩ (fun hHeld => ?_)
    clear hK K
    refine norm_ (a' := ?_) ?_ ?_
    rotate_left
    · show Act.put _ (some 11) _ = _
      simp only [Act.put, s_1, s_2, s_3, i64_w, i32_w]
      rfl
    refine pua 7 12 (bs_ 25 255) HT_ ?_
    refine pua 8 13 (bs_ 25 511) HT_ ?_
    refine pua 9 14 (bs_ 25 1023) HT_ ?_
    refine pua 11 16 (bs_ 25 3071) HT_ ?_
    refine tk_ 10 15 (bs_ 25 4095) rfl rfl HT_ HW_ (by kernel_rfl) (fun _ _ _ h => h) (by rfl) hHeld (by rintro w' ⟨s0, s1⟩; go_simp; with_reducible rfl) (by simp only [Act.put, s_1, s_2, s_3, i64_w, i32_w]; rfl) ?_
    refine one_ (i := 12) (N := some 17) (bs_ 25 8191) rfl rfl (one_of HT_.out (by kernel_rfl)) (by decide) (fun K hK => ?_)
    refine goes_ Try.func57 (by kernel_rfl) rfl #[.agg #[.int .i64 a0_0, .int .i64 a0_1], .string a1] (by rfl) rfl rfl (by (try simp only [m_1, m_2, m_3]); first | done | rfl | (simp only [m_4, m_5]; rfl)) ?_
    with_reducible refine (impl_Lock_isText.calls k a0_0 a0_1 a1 false _ A7.out).mono ?_
    rintro e w26 ⟨rfl, hb⟩
    refine ⟨_, rfl, ?_⟩
    have n0_ := bbx hb BK344
    have n1_ := bsx hb HB
    clear BK344
    clear HB
    have BK344 := n0_
    have HB := n1_
    clear n0_ n1_
    (try clear hb)
    (try clear hb2)
    (try clear hk)
    (try clear hi)
    refine hK.out _ _ ⟨(blk_cell BK344.out 0).trans rfl, (blk_cell BK344.out 1).trans rfl⟩ (fun hHeld => ?_)
    clear hK K
    refine norm_ (a' := ?_) ?_ ?_
    rotate_left
    · show Act.put _ (some 17) _ = _
      simp only [Act.put, s_1, s_2, s_3, i64_w, i32_w]
      rfl
    refine pua 13 18 (bs_ 25 16383) HT_ ?_
    refine pua 14 19 (bs_ 25 32767) HT_ ?_
    refine pv_ 15 20 (bs_ 25 65535) rfl rfl HT_ (by kernel_rfl) (fun _ _ _ h => h) (by rfl) (by simp only [Act.put, s_1, s_2, s_3, i64_w, i32_w]; rfl) ?_
    refine pv_ 16 21 (bs_ 25 131071) rfl rfl HT_ (by kernel_rfl) (fun _ _ _ h => h) (by rfl) (by simp only [Act.put, s_1, s_2, s_3, i64_w, i32_w]; rfl) ?_
    refine pv_ 17 22 (bs_ 25 262143) rfl rfl HT_ (by kernel_rfl) (fun _ _ _ h => h) (by rfl) (by simp only [Act.put, s_1, s_2, s_3, i64_w, i32_w]; rfl) ?_
    refine pv_ 18 23 (bs_ 25 524287) rfl rfl HT_ (by kernel_rfl) (fun _ _ _ h => h) (by rfl) (by simp only [Act.put, s_1, s_2, s_3, i64_w, i32_w]; rfl) ?_
    refine pv_ 19 24 (bs_ 25 1048575) rfl rfl HT_ (by kernel_rfl) (fun _ _ _ h => h) (by rfl) (by simp only [Act.put, s_1, s_2, s_3, i64_w, i32_w]; rfl) ?_
    refine pv_ 20 25 (bs_ 25 2097151) rfl rfl HT_ (by kernel_rfl) (fun _ _ _ h => h) (by rfl) (by simp only [Act.put, s_1, s_2, s_3, i64_w, i32_w]; rfl) ?_
    refine pv_ 21 26 (bs_ 25 4194303) rfl rfl HT_ (by kernel_rfl) (fun _ _ _ h => h) (by rfl) (by simp only [Act.put, s_1, s_2, s_3, i64_w, i32_w]; rfl) ?_
    refine pv_ 22 27 (bs_ 25 8388607) rfl rfl HT_ (by kernel_rfl) (fun _ _ _ h => h) (by rfl) (by simp only [Act.put, s_1, s_2, s_3, i64_w, i32_w]; rfl) ?_
    refine pua 23 28 (bs_ 25 16777215) HT_ ?_
    refine pua 24 4 (bs_ 25 33554431) HT_ ?_
    refine done_ (done_of HT_.out (by kernel_rfl)) ?_
    try go_wp2
    go_ret
    exact ⟨by first | rfl | (simp [errW_none, errW_some] <;> rfl) | (simp [*, errW_none, errW_some] <;> rfl), bB HB⟩
  subst c8
  rw [if_pos rfl] at H
  replace H := Option.bind_eq_some_iff.mp H
  obtain ⟨t348, A90, H⟩ := H
  try dsimp only at H
  have A9 := Aside0.mk A90
  clear A90
  replace H := Option.bind_eq_some_iff.mp H
  obtain ⟨t351, A100, H⟩ := H
  try dsimp only at H
  have A10 := Aside0.mk A100
  clear A100
  replace H := Option.bind_eq_some_iff.mp H
  obtain ⟨t354, A110, H⟩ := H
  try dsimp only at H
  have A11 := Aside0.mk A110
  clear A110
  obtain rfl := Option.some.inj H
  go_enter Try.func33, Try.ntmps33
  try go_wp2_with (first | ((with_reducible refine gate_dst (N := 2) rfl ?_); (try (refine gate_guard (by rfl) ?_; dsimp only)); refine box_event ?hg (N := 2) ?hd (cs := #[.int .i64 a0_0, .int .i64 a0_1]) (t := 26) ?hr ?_; (case hd => rfl); (case hg => rfl); (case hr => first | (go_simp; done) | (go_simp; rfl)); intro gb344 hg w12 hbox hb; have n0_ := bsx hb HB; have n1_ := Aside0.mk (hbox); have n2_ := gwx hg HB; have n3_ := n2_; clear HB; have HB := n0_; have BK344 := n1_; have GW344 := n2_; have GE344 := n3_; clear n0_ n1_ n2_ n3_; clear hb hbox hg))
  have n0_ := Aside0.mk (g_e BK344.out)
  have n1_ := Aside0.mk (b_e HB.out)
  clear BK344
  clear HB
  have BK344 := n0_
  have HB := n1_
  clear n0_ n1_
  refine start_ (n := 25) (S := fun w' => w'.cell? ⟨gb344, 0, none⟩ = some (.int .i64 a0_0) ∧ w'.cell? ⟨gb344, 1, none⟩ = some (.int .i64 a0_1)) (ds := []) (bs_ 25 0) (by kernel_rfl) rfl rfl ⟨(blk_cell BK344.out 0).trans rfl, (blk_cell BK344.out 1).trans rfl⟩ (fun hHeld => ?_); refine with_tabW impl_isRing.tab1 impl_isRing.bits1 (fun HT_ HW_ => ?_)
  generalize w12.drew = w13 at BK344 HB hHeld ⊢
  refine tk_ 0 5 (bs_ 25 1) rfl rfl HT_ HW_ (by kernel_rfl) (fun _ _ _ h => h) (by rfl) hHeld (by rintro w' ⟨s0, s1⟩; go_simp; with_reducible rfl) (by simp only [Act.put, s_1, s_2, s_3, i64_w, i32_w]; rfl) ?_
  refine one_ (i := 1) (N := some 6) (bs_ 25 3) rfl rfl (one_of HT_.out (by kernel_rfl)) (by decide) (fun K hK => ?_)
  refine goes_ Try.func29 (by kernel_rfl) rfl #[.agg #[.int .i64 a0_0, .int .i64 a0_1]] (by rfl) rfl rfl (by (try simp only [m_1, m_2, m_3]); first | done | rfl | (simp only [m_4, m_5]; rfl)) ?_
  with_reducible refine (impl_isRounded.calls k a0_0 a0_1 true _ A3.out).mono ?_
  rintro e w14 ⟨rfl, hb⟩
  refine ⟨_, rfl, ?_⟩
  have n0_ := bbx hb BK344
  have n1_ := bsx hb HB
  clear BK344
  clear HB
  have BK344 := n0_
  have HB := n1_
  clear n0_ n1_
  (try clear hb)
  (try clear hb2)
  (try clear hk)
  (try clear hi)
  refine hK.out _ _ ⟨(blk_cell BK344.out 0).trans rfl, (blk_cell BK344.out 1).trans rfl⟩ (fun hHeld => ?_)
  clear hK K
  refine norm_ (a' := ?_) ?_ ?_
  rotate_left
  · show Act.put _ (some 6) _ = _
    simp only [Act.put, s_1, s_2, s_3, i64_w, i32_w]
    rfl
  refine pua 2 7 (bs_ 25 7) HT_ ?_
  refine pua 3 8 (bs_ 25 15) HT_ ?_
  refine pua 4 9 (bs_ 25 31) HT_ ?_
  refine tk_ 5 10 (bs_ 25 63) rfl rfl HT_ HW_ (by kernel_rfl) (fun _ _ _ h => h) (by rfl) hHeld (by rintro w' ⟨s0, s1⟩; go_simp; with_reducible rfl) (by simp only [Act.put, s_1, s_2, s_3, i64_w, i32_w]; rfl) ?_
  refine one_ (i := 6) (N := some 11) (bs_ 25 127) rfl rfl (one_of HT_.out (by kernel_rfl)) (by decide) (fun K hK => ?_)
  refine goes_ Try.func39 (by kernel_rfl) rfl #[.agg #[.int .i64 a0_0, .int .i64 a0_1]] (by rfl) rfl rfl (by (try simp only [m_1, m_2, m_3]); first | done | rfl | (simp only [m_4, m_5]; rfl)) ?_
  with_reducible refine (impl_Lock_count.calls k a0_0 a0_1 t346 _ A5.out).mono ?_
  rintro e w15 ⟨rfl, hb⟩
  refine ⟨_, rfl, ?_⟩
  have n0_ := bbx hb BK344
  have n1_ := bsx hb HB
  clear BK344
  clear HB
  have BK344 := n0_
  have HB := n1_
  clear n0_ n1_
  (try clear hb)
  (try clear hb2)
  (try clear hk)
  (try clear hi)
  refine hK.out _ _ ⟨(blk_cell BK344.out 0).trans rfl, (blk_cell BK344.out 1).trans rfl⟩ (fun hHeld => ?_)
  clear hK K
  refine norm_ (a' := ?_) ?_ ?_
  rotate_left
  · show Act.put _ (some 11) _ = _
    simp only [Act.put, s_1, s_2, s_3, i64_w, i32_w]
    rfl
  refine pua 7 12 (bs_ 25 255) HT_ ?_
  refine pua 8 13 (bs_ 25 511) HT_ ?_
  refine pua 9 14 (bs_ 25 1023) HT_ ?_
  refine pua 11 16 (bs_ 25 3071) HT_ ?_
  refine tk_ 10 15 (bs_ 25 4095) rfl rfl HT_ HW_ (by kernel_rfl) (fun _ _ _ h => h) (by rfl) hHeld (by rintro w' ⟨s0, s1⟩; go_simp; with_reducible rfl) (by simp only [Act.put, s_1, s_2, s_3, i64_w, i32_w]; rfl) ?_
  refine one_ (i := 12) (N := some 17) (bs_ 25 8191) rfl rfl (one_of HT_.out (by kernel_rfl)) (by decide) (fun K hK => ?_)
  refine goes_ Try.func57 (by kernel_rfl) rfl #[.agg #[.int .i64 a0_0, .int .i64 a0_1], .string a1] (by rfl) rfl rfl (by (try simp only [m_1, m_2, m_3]); first | done | rfl | (simp only [m_4, m_5]; rfl)) ?_
  with_reducible refine (impl_Lock_isText.calls k a0_0 a0_1 a1 true _ A7.out).mono ?_
  rintro e w16 ⟨rfl, hb⟩
  refine ⟨_, rfl, ?_⟩
  have n0_ := bbx hb BK344
  have n1_ := bsx hb HB
  clear BK344
  clear HB
  have BK344 := n0_
  have HB := n1_
  clear n0_ n1_
  (try clear hb)
  (try clear hb2)
  (try clear hk)
  (try clear hi)
  refine hK.out _ _ ⟨(blk_cell BK344.out 0).trans rfl, (blk_cell BK344.out 1).trans rfl⟩ (fun hHeld => ?_)
  clear hK K
  refine norm_ (a' := ?_) ?_ ?_
  rotate_left
  · show Act.put _ (some 17) _ = _
    simp only [Act.put, s_1, s_2, s_3, i64_w, i32_w]
    rfl
  refine pua 13 18 (bs_ 25 16383) HT_ ?_
  refine pua 14 19 (bs_ 25 32767) HT_ ?_
  refine pua 16 21 (bs_ 25 98303) HT_ ?_
  refine tk_ 15 20 (bs_ 25 131071) rfl rfl HT_ HW_ (by kernel_rfl) (fun _ _ _ h => h) (by rfl) hHeld (by rintro w' ⟨s0, s1⟩; go_simp; with_reducible rfl) (by simp only [Act.put, s_1, s_2, s_3, i64_w, i32_w]; rfl) ?_
  refine tk_ 20 25 (bs_ 25 1179647) rfl rfl HT_ HW_ (by kernel_rfl) (fun _ _ _ h => h) (by rfl) hHeld (by rintro w' ⟨s0, s1⟩; go_simp; with_reducible rfl) (by simp only [Act.put, s_1, s_2, s_3, i64_w, i32_w]; rfl) ?_
  refine one_ (i := 17) (N := some 22) (bs_ 25 1310719) rfl rfl (one_of HT_.out (by kernel_rfl)) (by decide) (fun K hK => ?_)
  refine goes_ Try.func35 (by kernel_rfl) rfl #[.agg #[.int .i64 a0_0, .int .i64 a0_1], .string a1] (by rfl) rfl rfl (by (try simp only [m_1, m_2, m_3]); first | done | rfl | (simp only [m_4, m_5]; rfl)) ?_
  with_reducible refine (impl_Lock_rounded.calls k a0_0 a0_1 a1 t348 _ A9.out).mono ?_
  rintro e w17 ⟨v349, rfl, ho0, hb⟩
  refine ⟨_, rfl, ?_⟩
  have n0_ := Aside0.mk (Kd.R_lower ho0 (below_size (bB HB)))
  have n1_ := bbx hb BK344
  have n2_ := bsx hb HB
  clear BK344
  clear HB
  have HO350 := n0_
  have BK344 := n1_
  have HB := n2_
  clear n0_ n1_ n2_
  (try clear hb)
  (try clear hb2)
  (try clear hk)
  (try clear hi)
  (try clear ho0)
  obtain ⟨Ao18, co18, eo18⟩ := Kd.R_slice HO350.out
  (first | subst eo18 | (injection eo18 with f1_ f2_ f3_; have f4_ := f1_.symm; have f5_ := f3_.symm; clear f1_ f2_ f3_; subst f4_; subst f5_))
  refine hK.out _ _ ⟨(blk_cell BK344.out 0).trans rfl, (blk_cell BK344.out 1).trans rfl⟩ (fun hHeld => ?_)
  clear hK K
  refine norm_ (a' := ?_) ?_ ?_
  rotate_left
  · show Act.put _ (some 22) _ = _
    simp only [Act.put, s_1, s_2, s_3, i64_w, i32_w]
    rfl
  refine one_ (i := 18) (N := some 23) (bs_ 25 1572863) rfl rfl (one_of HT_.out (by kernel_rfl)) (by decide) (fun K hK => ?_)
  refine goes_ Try.func58 (by kernel_rfl) rfl #[.slice Ao18 t348.length co18] (by rfl) rfl rfl (by (try simp only [m_1, m_2, m_3]); first | done | rfl | (simp only [m_4, m_5]; rfl)) ?_
  with_reducible refine (impl_sorted.calls (fun k_ => some k_ = (.slice Ao18 t348.length co18 : Value).ownBlock) (.slice Ao18 t348.length co18) t348 t351 w _ ?side1 ?side2 A10.out).mono ?_
  (case side1 => exact bB HB)
  (case side2 => exact Kd.R_tight rfl HO350.out)
  rintro e w19 ⟨v352, rfl, ho0, hb, hkp⟩
  refine ⟨_, rfl, ?_⟩
  have n0_ := Aside0.mk (blk_kept (bK BK344) hkp (fun hs_ => (fun e_ => (Kd.R_ne HO350.out BK344.out (by decide)) e_) hs_))
  have n1_ := Aside0.mk (Kd.R_mono (ok' := fun k_ => True) ho0 (fun k_ hk_ => trivial))
  have n2_ := Aside0.mk (hb)
  clear BK344
  clear HB
  clear HO350
  have BK344 := n0_
  have HO353 := n1_
  have HB := n2_
  clear n0_ n1_ n2_
  (try clear hb)
  (try clear hkp)
  (try clear ho0)
  obtain ⟨Ao20, co20, eo20⟩ := Kd.R_slice HO353.out
  (first | subst eo20 | (injection eo20 with f1_ f2_ f3_; have f4_ := f1_.symm; have f5_ := f3_.symm; clear f1_ f2_ f3_; subst f4_; subst f5_))
  refine hK.out _ _ ⟨(blk_cell BK344.out 0).trans rfl, (blk_cell BK344.out 1).trans rfl⟩ (fun hHeld => ?_)
  clear hK K
  refine norm_ (a' := ?_) ?_ ?_
  rotate_left
  · show Act.put _ (some 23) _ = _
    simp only [Act.put, s_1, s_2, s_3, i64_w, i32_w]
    rfl
  refine pua 19 24 (bs_ 25 2097151) HT_ ?_
  refine one_ (i := 21) (N := some 26) (bs_ 25 4194303) rfl rfl (one_of HT_.out (by kernel_rfl)) (by decide) (fun K hK => ?_)
  refine goes_ Try.func39 (by kernel_rfl) rfl #[.agg #[.int .i64 a0_0, .int .i64 a0_1]] (by rfl) rfl rfl (by (try simp only [m_1, m_2, m_3]); first | done | rfl | (simp only [m_4, m_5]; rfl)) ?_
  with_reducible refine (impl_Lock_count.calls k a0_0 a0_1 t354 _ A11.out).mono ?_
  rintro e w21 ⟨rfl, hb⟩
  refine ⟨_, rfl, ?_⟩
  have n0_ := Aside0.mk (Kd.R_below (by (with_reducible repeat (first | apply r_a | apply r_d | apply r_e)); exact HO353.out) hb)
  have n1_ := bbx hb BK344
  have n2_ := bsx hb HB
  clear HO353
  clear BK344
  clear HB
  have HO353 := n0_
  have BK344 := n1_
  have HB := n2_
  clear n0_ n1_ n2_
  (try clear hb)
  (try clear hb2)
  (try clear hk)
  (try clear hi)
  refine hK.out _ _ ⟨(blk_cell BK344.out 0).trans rfl, (blk_cell BK344.out 1).trans rfl⟩ (fun hHeld => ?_)
  clear hK K
  refine norm_ (a' := ?_) ?_ ?_
  rotate_left
  · show Act.put _ (some 26) _ = _
    simp only [Act.put, s_1, s_2, s_3, i64_w, i32_w]
    rfl
  refine pua 22 27 (bs_ 25 8388607) HT_ ?_
  refine pua 23 28 (bs_ 25 16777215) HT_ ?_
  refine pua 24 4 (bs_ 25 33554431) HT_ ?_
  refine done_ (done_of HT_.out (by kernel_rfl)) ?_
  try go_wp2
  go_ret
  exact ⟨by first | rfl | (simp [errW_none, errW_some] <;> rfl) | (simp [*, errW_none, errW_some] <;> rfl), bB HB⟩
/-! ### impl_IsRing: function 8 -/
def impl_IsRing.f (k : Nat) (a0_0 : Int) (a0_1 : Int) (a1 : ByteArray) : Option (Bool × Bool) := (impl_isRounded.f k a0_0 a0_1).bind fun t356 => (if t356 = true then ((impl_isRing.f k a0_0 a0_1 a1).bind fun t357 => (some (t357, true))) else (some (false, false)))
theorem impl_IsRing.mono : ∀ a0 a1 a2 k, LeO (impl_IsRing.f k a0 a1 a2) (impl_IsRing.f (k + 1) a0 a1 a2) := by
  intro a0 a1 a2 k
  unfold impl_IsRing.f
  repeat' first
      | (with_reducible exact impl_isRing.mono _ _ _ _)
      | (with_reducible exact impl_isRounded.mono _ _ _)
      | (with_reducible exact LeO.refl _)
      | (with_reducible exact LeO.none _)
      | (with_reducible refine LeO.ite ?_ ?_)
      | (with_reducible refine LeO.bind ?_ (fun _ => ?_))
      | exact impl_isRing.mono _ _ _ _
      | exact impl_isRounded.mono _ _ _
      | exact LeO.none _
      | refine LeO.ite ?_ ?_
      | refine LeO.bind ?_ (fun _ => ?_)
set_option maxHeartbeats 8000000 in
set_option maxRecDepth 100000 in
theorem impl_IsRing.calls (k : Nat) (a0_0 : Int) (a0_1 : Int) (a1 : ByteArray) (r1 : Bool) (r2 : Bool) (w : World) (h : impl_IsRing.f k a0_0 a0_1 a1 = some (r1, r2)) :
    Calls Try.prog 8 #[.agg #[.int .i64 a0_0, .int .i64 a0_1], .string a1] w fun e w' => e = .returned (.tuple #[.bool r1, .bool r2]) ∧ Below w.heap.size w w' := by
  have hu26 := Try.underlying26
  have HB := Aside0.mk (Below.refl w.heap.size w)
  have H : ((impl_isRounded.f k a0_0 a0_1).bind fun t356 => (if t356 = true then ((impl_isRing.f k a0_0 a0_1 a1).bind fun t357 => (some (t357, true))) else (some (false, false)))) = some (r1, r2) := h
  clear h
  replace H := Option.bind_eq_some_iff.mp H
  obtain ⟨t356, A30, H⟩ := H
  try dsimp only at H
  have A3 := Aside0.mk A30
  clear A30
  by_cases c4 : t356 = true
  rotate_left
  · replace c4 := Bool.eq_false_iff.mpr c4
    subst c4
    rw [if_neg (show ¬ (false = true) by decide)] at H
    simp only [Option.some.injEq, Prod.mk.injEq] at H
    obtain ⟨rfl, rfl⟩ := H
    go_enter Try.func8, Try.ntmps8
    go_wp2_with (first | ((with_reducible refine gate_dst (N := 2) rfl ?_); refine box_event ?hg (N := 2) ?hd (cs := #[.int .i64 a0_0, .int .i64 a0_1]) (t := 26) ?hr ?_; (case hd => rfl); (case hg => rfl); (case hr => first | (go_simp; done) | (go_simp; rfl)); intro gb355 hg w11 hbox hb; have n0_ := bsx hb HB; have n1_ := Aside0.mk (hbox); have n2_ := gwx hg HB; have n3_ := n2_; clear HB; have HB := n0_; have BK355 := n1_; have GW355 := n2_; have GE355 := n3_; clear n0_ n1_ n2_ n3_; clear hb hbox hg; have hcz12_0 := cz0 BK355; have hcz12_1 := cz1 BK355; have hfz12_0 := blk_frozen BK355.out 0; have hfz12_1 := blk_frozen BK355.out 1) | ((with_reducible refine gate_callee (f := 29) rfl ?_); refine goesL_ (some 7) rfl rfl Try.func29 (by kernel_rfl) rfl #[.agg #[.int .i64 a0_0, .int .i64 a0_1]] rfl (by (try simp only [m_1, m_2, m_3]); first | done | rfl | (simp only [m_4, m_5]; rfl)) ?_; (with_reducible refine (impl_isRounded.calls k a0_0 a0_1 false _ A3.out).mono ?_); rintro e w13 ⟨rfl, hb⟩; refine ⟨_, rfl, ?_⟩; replace BK355 := bbx hb BK355; replace HB := bsx hb HB; skip; (try clear hb); (try clear hb2); (try clear hk); (try clear hi)))
    go_ret2
    exact ⟨by first | rfl | (simp [errW_none, errW_some] <;> rfl) | (simp [*, errW_none, errW_some] <;> rfl), bB HB⟩

  subst c4
  rw [if_pos rfl] at H
  replace H := Option.bind_eq_some_iff.mp H
  obtain ⟨t357, A50, H⟩ := H
  try dsimp only at H
  have A5 := Aside0.mk A50
  clear A50
  simp only [Option.some.injEq, Prod.mk.injEq] at H
  obtain ⟨rfl, rfl⟩ := H
  go_enter Try.func8, Try.ntmps8
  go_wp2_with (first | ((with_reducible refine gate_dst (N := 2) rfl ?_); refine box_event ?hg (N := 2) ?hd (cs := #[.int .i64 a0_0, .int .i64 a0_1]) (t := 26) ?hr ?_; (case hd => rfl); (case hg => rfl); (case hr => first | (go_simp; done) | (go_simp; rfl)); intro gb355 hg w6 hbox hb; have n0_ := bsx hb HB; have n1_ := Aside0.mk (hbox); have n2_ := gwx hg HB; have n3_ := n2_; clear HB; have HB := n0_; have BK355 := n1_; have GW355 := n2_; have GE355 := n3_; clear n0_ n1_ n2_ n3_; clear hb hbox hg; have hcz7_0 := cz0 BK355; have hcz7_1 := cz1 BK355; have hfz7_0 := blk_frozen BK355.out 0; have hfz7_1 := blk_frozen BK355.out 1) | ((with_reducible refine gate_callee (f := 29) rfl ?_); refine goesL_ (some 7) rfl rfl Try.func29 (by kernel_rfl) rfl #[.agg #[.int .i64 a0_0, .int .i64 a0_1]] rfl (by (try simp only [m_1, m_2, m_3]); first | done | rfl | (simp only [m_4, m_5]; rfl)) ?_; (with_reducible refine (impl_isRounded.calls k a0_0 a0_1 true _ A3.out).mono ?_); rintro e w8 ⟨rfl, hb⟩; refine ⟨_, rfl, ?_⟩; replace BK355 := bbx hb BK355; replace HB := bsx hb HB; skip; (try clear hb); (try clear hb2); (try clear hk); (try clear hi); have hcz9_0 := cz0 BK355; have hcz9_1 := cz1 BK355; have hfz9_0 := blk_frozen BK355.out 0; have hfz9_1 := blk_frozen BK355.out 1) | ((with_reducible refine gate_callee (f := 33) rfl ?_); refine goesL_ (some 11) rfl rfl Try.func33 (by kernel_rfl) rfl #[.agg #[.int .i64 a0_0, .int .i64 a0_1], .string a1] rfl (by (try simp only [m_1, m_2, m_3]); first | done | rfl | (simp only [m_4, m_5]; rfl)) ?_; (with_reducible refine (impl_isRing.calls k a0_0 a0_1 a1 t357 _ A5.out).mono ?_); rintro e w10 ⟨rfl, hb⟩; refine ⟨_, rfl, ?_⟩; replace BK355 := bbx hb BK355; replace HB := bsx hb HB; skip; (try clear hb); (try clear hb2); (try clear hk); (try clear hi)))
  go_ret2
  exact ⟨by first | rfl | (simp [errW_none, errW_some] <;> rfl) | (simp [*, errW_none, errW_some] <;> rfl), bB HB⟩
/-! ### spec_riText: function 59 (a text of our own) -/
def spec_riText.f (a0_0 : Int) (a0_1 : Int) (a1 : ByteArray) : Option (Bool) := if 2 ≤ a0_1 ∧ a0_1 ≤ 10 then some (a1.data.toList.all fun b => decide (48 ≤ (b.toNat : Int) ∧ (b.toNat : Int) < 48 + a0_1)) else none
theorem spec_riText.iter_drewN (w : World) (s : ByteArray) (pos : Nat) : ∀ n : Nat, (w.iter s pos).drewN n = (w.drewN n).iter s pos
  | 0 => rfl
  | n + 1 => by
    show ((w.iter s pos).drewN n).drew = ((w.drewN n).drew).iter s pos
    rw [spec_riText.iter_drewN w s pos n]; rfl
theorem spec_riText.cell_iter (w : World) (s : ByteArray) (pos : Nat) (a : Addr) (h : a.block < w.heap.size) : (w.iter s pos).cell? a = w.cell? a := World.cell?_alloc_lt _ _ _ h
theorem spec_riText.drewN_heap (w : World) : ∀ n : Nat, (w.drewN n).heap = w.heap
  | 0 => rfl
  | n + 1 => by show ((w.drewN n).drew).heap = _; exact spec_riText.drewN_heap w n
set_option maxHeartbeats 8000000 in
set_option maxRecDepth 100000 in
theorem spec_riText.calls (a0_0 : Int) (a0_1 : Int) (a1 : ByteArray) (r : Bool) (w : World) (h : spec_riText.f a0_0 a0_1 a1 = some r) :
    Calls Try.prog 59 #[.agg #[.int .i64 a0_0, .int .i64 a0_1], .string a1] w fun e w' => e = .returned (.bool r) ∧ Below w.heap.size w w' := by
  have hu9 := Try.underlying9
  have hu26 := Try.underlying26
  unfold spec_riText.f at h
  by_cases hD : 2 ≤ a0_1 ∧ a0_1 ≤ 10
  · rw [if_pos hD] at h
    have HDD := Aside0.mk hD
    clear hD
    have H := Aside0.mk (Option.some.inj h)
    clear h
    go_enter Try.func59, Try.ntmps59
    go_wp2
    go_loopg [5] (a1.size + 1) (fun kq v5 w' => ∃ (pos n : Nat), kq + pos = a1.size + 1 ∧ pos ≤ a1.size ∧ Aside0 ((a1.data.toList.drop pos).all (fun b => decide (48 ≤ (b.toNat : Int) ∧ (b.toNat : Int) < 48 + a0_1)) = r) ∧ Aside0 (w' = ((w.alloc (.cells #[.int .i64 a0_0, .int .i64 a0_1] 26)).drewN n).iter a1 pos))
    case atStart => exact ⟨0, 0, rfl, Nat.zero_le _, ⟨H.out⟩, ⟨rfl⟩⟩
    case round =>
      obtain ⟨pos, n, hk, hp, HA, HW⟩ := hrel
      obtain rfl := HW.out
      have HWc := Aside0.mk (show ((w.alloc (.cells #[.int .i64 a0_0, .int .i64 a0_1] 26)).drewN n).heap.size = w.heap.size + 1 from by rw [spec_riText.drewN_heap]; show (w.heap.push _).size = _; simp)
      clear HW
      obtain ⟨wb, Hwb⟩ : ∃ wb, wb = (w.alloc (.cells #[.int .i64 a0_0, .int .i64 a0_1] 26)).drewN n := ⟨_, rfl⟩
      rw [← Hwb] at HWc ⊢
      have HWB := Aside0.mk Hwb
      clear Hwb
      have Hbel : Aside0 (∀ p m, Below w.heap.size w ((wb.iter a1 p).drewN m)) := ⟨fun p m => by
        rw [HWB.out]
        exact pw_below_drewN (below_alloc (pw_below_drewN (below_alloc (Below.refl _ _) _) _) _) _⟩
      have Hcell : Aside0 (∀ p, (wb.iter a1 p).cell? ⟨w.heap.size, 1, none⟩ = some (.int .i64 a0_1)) := ⟨fun p => by
        have b : (w.alloc (.cells #[.int .i64 a0_0, .int .i64 a0_1] 26)).heap[w.heap.size]? = some (.cells #[.int .i64 a0_0, .int .i64 a0_1] 26 (0, 0)) := by
          show (w.heap.push _)[w.heap.size]? = _; simp
        have b2 : wb.heap[w.heap.size]? = some (.cells #[.int .i64 a0_0, .int .i64 a0_1] 26 (0, 0)) := by rw [HWB.out]; exact blk_drewN b _
        have b3 : (wb.iter a1 p).heap[w.heap.size]? = some (.cells #[.int .i64 a0_0, .int .i64 a0_1] 26 (0, 0)) := blk_alloc b2 _
        exact (blk_cell b3 1).trans rfl⟩
      by_cases hlt : pos < a1.size
      · have hnx0 := fun ty => run_next_any (P := Try.prog) wb a1 pos ty hlt
        have hl' : pos < a1.data.toList.length := by rw [Array.length_toList]; exact hlt
        have hbt : bt a1 (pos : Int) = ((a1.data.toList[pos]).toNat : Int) := by
          unfold bt
          rw [dif_pos (by rw [Int.toNat_natCast]; exact hlt)]
          simp only [Int.toNat_natCast, Array.getElem_toList]; rfl
        have hbb : bt a1 (pos : Int) < 256 ∧ 0 ≤ bt a1 (pos : Int) := by
          have := UInt8.toNat_lt (a1.data.toList[pos]); rw [hbt]; omega
        have hall : (a1.data.toList.drop pos).all (fun b => decide (48 ≤ (b.toNat : Int) ∧ (b.toNat : Int) < 48 + a0_1)) = (decide (48 ≤ bt a1 (pos : Int) ∧ bt a1 (pos : Int) < 48 + a0_1) && (a1.data.toList.drop (pos + 1)).all (fun b => decide (48 ≤ (b.toNat : Int) ∧ (b.toNat : Int) < 48 + a0_1))) := by
          rw [List.drop_eq_getElem_cons hl', List.all_cons, hbt]
        have hasc : bt a1 (pos : Int) < 128 → (Utf8.decode a1 pos).2 = 1 := fun hb => by
          have ha : (a1[pos]'hlt).toNat < 128 := by
            have e : bt a1 (pos : Int) = ((a1[pos]'hlt).toNat : Int) := by rw [hbt]; rfl
            omega
          rw [decode_ascii a1 pos hlt ha]
        rw [HWc.out] at hnx0
        obtain ⟨W0, HW0⟩ : ∃ W0, W0 = wb.iter a1 pos := ⟨_, rfl⟩
        obtain ⟨W2, HW2⟩ : ∃ W2, W2 = wb.iter a1 (pos + (Utf8.decode a1 pos).2) := ⟨_, rfl⟩
        obtain ⟨ru, Hru⟩ : ∃ ru, ru = (Utf8.decode a1 pos).1 := ⟨_, rfl⟩
        obtain ⟨x, Hx⟩ : ∃ x : Int, x = (pos : Int) := ⟨_, rfl⟩
        rw [← HW0, ← HW2, ← Hru, ← Hx] at hnx0
        rw [← HW0]
        rw [← Hx] at hbt hall hasc hbb
        have hcz := Hcell.out (pos + (Utf8.decode a1 pos).2)
        rw [← HW2] at hcz
        have HB2 : Aside0 (∀ m, Below w.heap.size w (W2.drewN m)) := ⟨fun m => by rw [HW2]; exact Hbel.out _ m⟩
        have hx0 : 0 ≤ x := by rw [Hx]; exact Int.natCast_nonneg _
        have hx1 : x < (a1.size : Int) := by rw [Hx]; exact Int.ofNat_lt.mpr hlt
        have hxb := bt_at a1 x
        replace hx0 := eq_true hx0
        replace hx1 := eq_true hx1
        have HX := Aside0.mk Hx; have HR := Aside0.mk Hru; have HW0' := Aside0.mk HW0; have HW2' := Aside0.mk HW2; have HALL := Aside0.mk hall; have HASC := Aside0.mk hasc; have HBB := Aside0.mk hbb; have HLT := Aside0.mk hlt; have HK := Aside0.mk hk; have HP := Aside0.mk hp
        clear Hx Hru HW0 HW2 hall hasc hbb hbt hl' hlt hk hp
        have ew1 : wrap64 (bt a1 x) = bt a1 x := by have := HBB.out; unfold wrap64; omega
        have ew2 : wrap64 (bt a1 x - 48) = bt a1 x - 48 := by have := HBB.out; unfold wrap64; omega
        have ew3 : wrap64 (a0_1 - 1) = a0_1 - 1 := by have := HDD.out; unfold wrap64; omega
        have EW := Aside0.mk (And.intro ew1 (And.intro ew2 ew3))
        clear ew1 ew2 ew3
        by_cases hd : 48 ≤ bt a1 x ∧ bt a1 x < 48 + a0_1
        · have A9 : Aside0 (spec_l1In.f (wrap64 ((wrap64 (bt a1 x)) - 48)) 0 (wrap64 (a0_1 - 1)) = some true) := ⟨by
            obtain ⟨e1, e2, e3⟩ := EW.out
            rw [e1, e2, e3]; unfold spec_l1In.f; rw [if_pos (by omega)]; congr 1; exact decide_eq_true (by omega)⟩
          have HD := Aside0.mk hd
          clear hd
          go_wp2_with (first | (go_at_call 44; (with_reducible refine (spec_l1In.calls (wrap64 ((wrap64 (bt a1 x)) - 48)) 0 (wrap64 (a0_1 - 1)) true _ A9.out).mono ?_); rintro e w' ⟨rfl, ⟨nd, rfl⟩⟩; (try first | exact ⟨rfl, _, World.drewN_drewN _ _ _⟩ | exact ⟨rfl, _, Eq.trans (World.drewN_drewN _ _ _) (congrArg (World.drewN _) (Nat.add_assoc _ _ _))⟩)))
          repeat (go_quiet (first | (go_at_call 44; (with_reducible refine (spec_l1In.calls (wrap64 ((wrap64 (bt a1 x)) - 48)) 0 (wrap64 (a0_1 - 1)) true _ A9.out).mono ?_); rintro e w' ⟨rfl, ⟨nd, rfl⟩⟩; (try first | exact ⟨rfl, _, World.drewN_drewN _ _ _⟩ | exact ⟨rfl, _, Eq.trans (World.drewN_drewN _ _ _) (congrArg (World.drewN _) (Nat.add_assoc _ _ _))⟩))); try go_wp2)
          obtain ⟨k1, hk1⟩ : ∃ k1, gk = k1 + 1 := ⟨gk - 1, by have := HK.out; have := HLT.out; omega⟩
          subst hk1
          go_roundg k1
          case measure => omega
          case rel =>
            have h1 : (Utf8.decode a1 pos).2 = 1 := HASC.out (by have := HD.out; have := HDD.out; omega)
            refine ⟨pos + 1, n + nq, by have := HK.out; omega, HLT.out, ⟨?_⟩, ⟨?_⟩⟩
            · have := HALL.out
              rw [HA.out, decide_eq_true HD.out, Bool.true_and] at this
              exact this.symm
            · rw [HW2'.out, h1, spec_riText.iter_drewN, HWB.out, World.drewN_drewN]
        · have A9 : Aside0 (spec_l1In.f (wrap64 ((wrap64 (bt a1 x)) - 48)) 0 (wrap64 (a0_1 - 1)) = some false) := ⟨by
            obtain ⟨e1, e2, e3⟩ := EW.out
            rw [e1, e2, e3]; unfold spec_l1In.f
            by_cases q : bt a1 x - 48 ≥ 0
            · rw [if_pos q]; congr 1; exact decide_eq_false (by omega)
            · rw [if_neg q]⟩
          have hr : r = false := by
            have := HALL.out
            rw [HA.out, decide_eq_false hd, Bool.false_and] at this
            exact this
          clear HA HALL
          subst hr
          clear hd
          go_wp2_with (first | (go_at_call 44; (with_reducible refine (spec_l1In.calls (wrap64 ((wrap64 (bt a1 x)) - 48)) 0 (wrap64 (a0_1 - 1)) false _ A9.out).mono ?_); rintro e w' ⟨rfl, ⟨nd, rfl⟩⟩; (try first | exact ⟨rfl, _, World.drewN_drewN _ _ _⟩ | exact ⟨rfl, _, Eq.trans (World.drewN_drewN _ _ _) (congrArg (World.drewN _) (Nat.add_assoc _ _ _))⟩)))
          repeat (go_quiet (first | (go_at_call 44; (with_reducible refine (spec_l1In.calls (wrap64 ((wrap64 (bt a1 x)) - 48)) 0 (wrap64 (a0_1 - 1)) false _ A9.out).mono ?_); rintro e w' ⟨rfl, ⟨nd, rfl⟩⟩; (try first | exact ⟨rfl, _, World.drewN_drewN _ _ _⟩ | exact ⟨rfl, _, Eq.trans (World.drewN_drewN _ _ _) (congrArg (World.drewN _) (Nat.add_assoc _ _ _))⟩))); try go_wp2)
          go_ret
          exact ⟨rfl, HB2.out _⟩
      · have hnx0 := fun ty => run_next_end (P := Try.prog) wb a1 pos ty hlt
        rw [HWc.out] at hnx0
        have hr : r = true := by
          rw [← HA.out, List.drop_of_length_le (by rw [Array.length_toList]; exact Nat.le_of_not_lt hlt)]; rfl
        clear HA
        subst hr
        obtain ⟨W0, HW0⟩ : ∃ W0, W0 = wb.iter a1 pos := ⟨_, rfl⟩
        rw [← HW0] at hnx0 ⊢
        have hB : Below w.heap.size w W0 := by have := Hbel.out pos 0; rw [HW0]; exact this
        have HB := Aside0.mk hB
        clear HW0 hB hlt
        go_wp2
        go_ret
        exact ⟨rfl, HB.out⟩
  · rw [if_neg hD] at h; exact absurd h (by simp)


/-! ### spec_whDigits: function 46 -/
def spec_whDigits.l0 : Nat → ByteArray → List Int → Int → Option (List Int)
  | 0, _, _, _ => none
  | k + 1, x0, x3, x4 => if x4 < (x0.size : Int) then (if 0 ≤ x4 then (if x3.length < 17592186044416 then (spec_whDigits.l0 k x0 (x3 ++ [((bt x0 x4) - 48) % 256]) (wrap64 (x4 + 1))) else (none)) else (none)) else (some x3)
def spec_whDigits.f (k : Nat) (a0 : ByteArray) : Option (List Int) := spec_whDigits.l0 k a0 ([] : List Int) 0
theorem spec_whDigits.mono_l : ∀ k, (∀ y0 y1 y2, LeO (spec_whDigits.l0 k y0 y1 y2) (spec_whDigits.l0 (k + 1) y0 y1 y2))
  | 0 => fun _ _ _ r h => by simp [spec_whDigits.l0] at h
  | k + 1 => by
    have ih0 := spec_whDigits.mono_l k
    · intro y0 y1 y2
      unfold spec_whDigits.l0
      repeat' first
      | (with_reducible exact ih0 _ _ _)
      | (with_reducible exact LeO.refl _)
      | (with_reducible exact LeO.none _)
      | (with_reducible refine LeO.ite ?_ ?_)
      | (with_reducible refine LeO.bind ?_ (fun _ => ?_))
      | exact ih0 _ _ _
      | exact LeO.none _
      | refine LeO.ite ?_ ?_
      | refine LeO.bind ?_ (fun _ => ?_)
theorem spec_whDigits.mono : ∀ a0 k, LeO (spec_whDigits.f k a0) (spec_whDigits.f (k + 1) a0) := by
  intro a0 k
  have ih0 := spec_whDigits.mono_l k
  unfold spec_whDigits.f
  repeat' first
      | (with_reducible exact ih0 _ _ _)
      | (with_reducible exact LeO.refl _)
      | (with_reducible exact LeO.none _)
      | (with_reducible refine LeO.ite ?_ ?_)
      | (with_reducible refine LeO.bind ?_ (fun _ => ?_))
      | exact ih0 _ _ _
      | exact LeO.none _
      | refine LeO.ite ?_ ?_
      | refine LeO.bind ?_ (fun _ => ?_)
set_option maxHeartbeats 8000000 in
set_option maxRecDepth 100000 in
theorem spec_whDigits.calls (k : Nat) (a0 : ByteArray) (r : List Int) (w : World) (h : spec_whDigits.f k a0 = some r) :
    Calls Try.prog 46 #[.string a0] w fun e w' => ∃ v0_ : Value, e = .returned (v0_) ∧ Kd.R (Kd.int .i64) 3 w' w.heap.size (fun _ => True) v0_ r ∧ Below w.heap.size w w' := by
  have HB := Aside0.mk (Below.refl w.heap.size w)
  have H : (spec_whDigits.l0 k a0 ([] : List Int) 0) = some r := h
  clear h
  have H' := Aside0.mk H
  clear H
  go_enter Try.func46, Try.ntmps46
  go_wp2
  go_loopg [3, 4] k (fun kq v3 v4 w' => ∃ (x3_1 : List Int) (x4_1 : Int), v4 = .int .i64 x4_1 ∧ Aside0 (spec_whDigits.l0 kq a0 x3_1 x4_1 = some r) ∧ Aside0 (kq ≤ k) ∧ Aside0 (Kd.R (Kd.int .i64) 3 w' w.heap.size (fun _ => True) v3 x3_1) ∧ Aside0 (Below w.heap.size w w'))
  case atStart => exact ⟨(([] : List Int)), (0), (by first | rfl | (simp; done) | (simp [*]; done)), H', ⟨Nat.le_refl _⟩, ⟨by first | exact Kd.R_nil _ _ _ _ _ | exact Kd.N_nil _ _ _ _ _ | exact Kd.V_nil _ _ _ _ _ | exact Kd.Q_nil _ _ _ _ _ | exact Kd.S_nil _ _ _ _ _⟩, ⟨bB HB⟩⟩
  clear H'
  obtain ⟨x3_1, x4_1, rfl, HA, HK1, HO_3, HB⟩ := hrel
  rcases gk with _ | k1
  · exact absurd HA.out (by simp [spec_whDigits.l0])
  have H := HA.out
  clear HA
  simp only [spec_whDigits.l0] at H
  by_cases c2 : x4_1 < (a0.size : Int)
  rotate_left
  · rw [if_neg c2] at H
    have c2b0 : decide (x4_1 < (a0.size : Int)) = false := decide_eq_false c2
    clear c2
    obtain rfl := Option.some.inj H
    go_wp2
    go_ret
    exact ⟨_, by first | rfl | (simp [errW_none, errW_some] <;> rfl) | (simp [*, errW_none, errW_some] <;> rfl), by (with_reducible repeat (first | apply r_a | apply r_d | apply r_e)); exact HO_3.out, bB HB⟩

  rw [if_pos c2] at H
  have c2b0 : decide (x4_1 < (a0.size : Int)) = true := decide_eq_true c2
  clear c2
  by_cases c3 : 0 ≤ x4_1
  rotate_left
  · rw [if_neg c3] at H
    exact absurd H (by simp)
  rw [if_pos c3] at H
  have c3b0 : decide (0 ≤ x4_1) = true := decide_eq_true c3
  clear c3
  by_cases c5 : x3_1.length < 17592186044416
  rotate_left
  · rw [if_neg c5] at H
    exact absurd H (by simp)
  rw [if_pos c5] at H
  have LMc5 := Aside0.mk c5
  clear c5
  obtain ⟨y358, hy358⟩ : ∃ y_ : List Int, y_ = (x3_1 ++ [((bt a0 x4_1) - 48) % 256]) := ⟨_, rfl⟩
  replace H : (spec_whDigits.l0 k1 a0 y358 (wrap64 (x4_1 + 1))) = some r := by first | (rw [hy358]; with_reducible exact H) | (have H2_ := (Option.bind_some _ _).symm.trans H; rw [hy358]; with_reducible exact H2_) | (have H2_ := (Option.bind_some _ _).symm.trans H; with_reducible exact H2_) | with_reducible exact H | (rw [hy358]; exact H) | exact H
  have Ny358 := Aside0.mk hy358
  clear hy358
  have H' := Aside0.mk H
  clear H
  have p4 : 0 ≤ (x4_1 : Int) := of_decide_eq_true (by first | (with_reducible assumption) | assumption)
  have q4 : x4_1 < (a0.size : Int) := of_decide_eq_true (by first | (with_reducible assumption) | assumption)
  have hx4 := bt_at a0 x4_1
  replace p4 := eq_true p4
  replace q4 := eq_true q4
  go_wp2_with (first | ((with_reducible refine gate_builtin (b := .append) (xs := #[.tmp 11, .tmp 17]) rfl ?_); at_builtin; refine Kd.R_append (Kd.int .i64) (w0 := w) w.heap.size rfl (.tmp 11) (.tmp 17) 50 3 (.int .i64 0) 8 rfl Try.underlying50 info3 rfl (by decide) (by omega) u3 x3_1 (((bt a0 x4_1) - 48) % 256) [.int .i64 (((bt a0 x4_1) - 48) % 256)] (fun _ => True) (fun _ => False) rfl rfl ?aP (fun _ hk => hk.elim) ?aF ?aO ?aB ?aS ?aL ?_; (case aP => exact rfl); (case aB => exact (bB HB)); (case aF => exact (fun _ _ => trivial)); (case aO => exact (by (with_reducible repeat (first | apply r_a | apply r_d | apply r_e)); exact HO_3.out)); (case aS => exact (below_size (bB HB))); (case aL => have := LMc5.out; omega); intro v359 w6 ho hb hg hat; rw [← Ny358.out] at ho; have n0_ := Aside0.mk (hb); have n1_ := Aside0.mk (ho); clear HB; clear HO_3; have HB := n0_; have HO360 := n1_; clear n0_ n1_; clear ho hb hg hat))
  go_roundg k1
  case measure => have := HK1.out; omega
  case rel => exact ⟨(y358), (wrap64 (x4_1 + 1)), (by first | rfl | (simp; done) | (simp [*]; done)), H', ⟨by have := HK1.out; omega⟩, ⟨by (with_reducible repeat (first | apply r_a | apply r_d | apply r_e)); exact HO360.out⟩, ⟨bB HB⟩⟩
/-! ### spec_whNumber: function 74 -/
def spec_whNumber.l0 : Nat → Int → List Int → Int → Int → Int → Int → Option (Int)
  | 0, _, _, _, _, _, _ => none
  | k + 1, x5, x9, x10, x11, x362000, x362001 => if x11 < x10 then (if 0 ≤ x11 then (if x11 < (x9.length : Int) then (spec_whNumber.l0 k (wrap64 ((wrap64 (x5 * x362001)) + (rd x9 x11))) x9 x10 (wrap64 (x11 + 1)) x362000 x362001) else (none)) else (none)) else (some x5)
def spec_whNumber.f (k : Nat) (a0_0 : Int) (a0_1 : Int) (a1 : ByteArray) : Option (Int) := (spec_whDigits.f k a1).bind fun t362 => (spec_whNumber.l0 k 0 t362 (t362.length : Int) 0 a0_0 a0_1)
theorem spec_whNumber.mono_l : ∀ k, (∀ y0 y1 y2 y3 y4 y5, LeO (spec_whNumber.l0 k y0 y1 y2 y3 y4 y5) (spec_whNumber.l0 (k + 1) y0 y1 y2 y3 y4 y5))
  | 0 => fun _ _ _ _ _ _ r h => by simp [spec_whNumber.l0] at h
  | k + 1 => by
    have ih0 := spec_whNumber.mono_l k
    · intro y0 y1 y2 y3 y4 y5
      unfold spec_whNumber.l0
      repeat' first
      | (with_reducible exact ih0 _ _ _ _ _ _)
      | (with_reducible exact spec_whDigits.mono _ _)
      | (with_reducible exact LeO.refl _)
      | (with_reducible exact LeO.none _)
      | (with_reducible refine LeO.ite ?_ ?_)
      | (with_reducible refine LeO.bind ?_ (fun _ => ?_))
      | exact ih0 _ _ _ _ _ _
      | exact spec_whDigits.mono _ _
      | exact LeO.none _
      | refine LeO.ite ?_ ?_
      | refine LeO.bind ?_ (fun _ => ?_)
theorem spec_whNumber.mono : ∀ a0 a1 a2 k, LeO (spec_whNumber.f k a0 a1 a2) (spec_whNumber.f (k + 1) a0 a1 a2) := by
  intro a0 a1 a2 k
  have ih0 := spec_whNumber.mono_l k
  unfold spec_whNumber.f
  repeat' first
      | (with_reducible exact ih0 _ _ _ _ _ _)
      | (with_reducible exact spec_whDigits.mono _ _)
      | (with_reducible exact LeO.refl _)
      | (with_reducible exact LeO.none _)
      | (with_reducible refine LeO.ite ?_ ?_)
      | (with_reducible refine LeO.bind ?_ (fun _ => ?_))
      | exact ih0 _ _ _ _ _ _
      | exact spec_whDigits.mono _ _
      | exact LeO.none _
      | refine LeO.ite ?_ ?_
      | refine LeO.bind ?_ (fun _ => ?_)
set_option maxHeartbeats 8000000 in
set_option maxRecDepth 100000 in
theorem spec_whNumber.calls (k : Nat) (a0_0 : Int) (a0_1 : Int) (a1 : ByteArray) (r : Int) (w : World) (h : spec_whNumber.f k a0_0 a0_1 a1 = some r) :
    Calls Try.prog 74 #[.agg #[.int .i64 a0_0, .int .i64 a0_1], .string a1] w fun e w' => e = .returned (.int .i64 r) ∧ Below w.heap.size w w' := by
  have hu26 := Try.underlying26
  have HB := Aside0.mk (Below.refl w.heap.size w)
  have H : ((spec_whDigits.f k a1).bind fun t362 => (spec_whNumber.l0 k 0 t362 (t362.length : Int) 0 a0_0 a0_1)) = some r := h
  clear h
  replace H := Option.bind_eq_some_iff.mp H
  obtain ⟨t362, A30, H⟩ := H
  try dsimp only at H
  have A3 := Aside0.mk A30
  clear A30
  have H' := Aside0.mk H
  clear H
  go_enter Try.func74, Try.ntmps74
  go_wp2_with (first | ((with_reducible refine gate_dst (N := 2) rfl ?_); refine box_event ?hg (N := 2) ?hd (cs := #[.int .i64 a0_0, .int .i64 a0_1]) (t := 26) ?hr ?_; (case hd => rfl); (case hg => rfl); (case hr => first | (go_simp; done) | (go_simp; rfl)); intro gb361 hg w4 hbox hb; have n0_ := bsx hb HB; have n1_ := Aside0.mk (hbox); have n2_ := gwx hg HB; have n3_ := n2_; clear HB; have HB := n0_; have BK361 := n1_; have GW361 := n2_; have GE361 := n3_; clear n0_ n1_ n2_ n3_; clear hb hbox hg) | ((with_reducible refine gate_callee (f := 46) rfl ?_); refine goesL_ (some 9) rfl rfl Try.func46 (by kernel_rfl) rfl #[.string a1] rfl (by (try simp only [m_1, m_2, m_3]); first | done | rfl | (simp only [m_4, m_5]; rfl)) ?_; (with_reducible refine (spec_whDigits.calls k a1 t362 _ A3.out).mono ?_); rintro e w5 ⟨v363, rfl, ho0, hb⟩; refine ⟨_, rfl, ?_⟩; have n0_ := Aside0.mk (Kd.R_lower ho0 (below_size (bB HB))); replace BK361 := bbx hb BK361; have n2_ := bsx hb HB; clear HB; have HO364 := n0_; have HB := n2_; clear n0_ n2_; (try clear hb); (try clear hb2); (try clear hk); (try clear hi); (try clear ho0); obtain ⟨Ao6, co6, eo6⟩ := Kd.R_slice HO364.out; subst eo6))
  go_loopg [5, 11] k (fun kq v5 v11 w' => ∃ (x5_1 : Int) (x11_1 : Int), v5 = .int .i64 x5_1 ∧ v11 = .int .i64 x11_1 ∧ Aside0 (spec_whNumber.l0 kq x5_1 t362 (t362.length : Int) x11_1 a0_0 a0_1 = some r) ∧ Aside0 (kq ≤ k) ∧ Aside0 (Kd.R (Kd.int .i64) 3 w' w.heap.size (fun _ => True) (.slice Ao6 t362.length co6) t362) ∧ Aside0 (w'.heap[gb361]? = some (.cells #[.int .i64 a0_0, .int .i64 a0_1] 26 (0, 0))) ∧ Aside0 (Below w.heap.size w w'))
  case atStart => refine ⟨(0), (0), (by first | rfl | (simp; done) | (simp [*]; done)), (by first | rfl | (simp; done) | (simp [*]; done)), H', ⟨Nat.le_refl _⟩, ⟨?_⟩, ⟨?_⟩, ⟨bB HB⟩⟩ <;> (with_reducible repeat (first | refine g_d ?_ _ | refine g_e ?_ | refine g_a ?_ _ | apply r_a | apply r_d | apply r_e)) <;> first | exact BK361.out | exact HO364.out
  clear H'
  obtain ⟨x5_1, x11_1, rfl, rfl, HA, HK1, HO_9, BK361, HB⟩ := hrel
  rcases gk with _ | k1
  · exact absurd HA.out (by simp [spec_whNumber.l0])
  have H := HA.out
  clear HA
  simp only [spec_whNumber.l0] at H
  by_cases c7 : x11_1 < (t362.length : Int)
  rotate_left
  · rw [if_neg c7] at H
    have c7b0 : decide (x11_1 < (t362.length : Int)) = false := decide_eq_false c7
    clear c7
    obtain rfl := Option.some.inj H
    go_wp2
    go_ret
    exact ⟨by first | rfl | (simp [errW_none, errW_some] <;> rfl) | (simp [*, errW_none, errW_some] <;> rfl), bB HB⟩

  rw [if_pos c7] at H
  have c7b0 : decide (x11_1 < (t362.length : Int)) = true := decide_eq_true c7
  clear c7
  by_cases c8 : 0 ≤ x11_1
  rotate_left
  · rw [if_neg c8] at H
    exact absurd H (by simp)
  rw [if_pos c8] at H
  have c8b0 : decide (0 ≤ x11_1) = true := decide_eq_true c8
  clear c8
  by_cases c9 : x11_1 < (t362.length : Int)
  rotate_left
  · rw [if_neg c9] at H
    exact absurd H (by simp)
  rw [if_pos c9] at H
  have c9b0 : decide (x11_1 < (t362.length : Int)) = true := decide_eq_true c9
  clear c9
  have H' := Aside0.mk H
  clear H
  have p365 : 0 ≤ (x11_1 : Int) := of_decide_eq_true (by first | (with_reducible assumption) | assumption)
  have q365 : x11_1 < (t362.length : Int) := of_decide_eq_true (by first | (with_reducible assumption) | assumption)
  obtain ⟨ad365, e365, hx365_0⟩ := Kd.at_int (Kd.R_reads' HO_9.out).2.2 x11_1 p365 q365
  cases e365
  replace p365 := eq_true p365
  replace q365 := eq_true q365
  have hcz10_0 := cz0 BK361
  have hcz10_1 := cz1 BK361
  have hfz10_0 := blk_frozen BK361.out 0
  have hfz10_1 := blk_frozen BK361.out 1
  go_wp2
  go_roundg k1
  case measure => have := HK1.out; omega
  case rel => refine ⟨(wrap64 ((wrap64 (x5_1 * a0_1)) + (rd t362 x11_1))), (wrap64 (x11_1 + 1)), (by first | rfl | (simp; done) | (simp [*]; done)), (by first | rfl | (simp; done) | (simp [*]; done)), H', ⟨by have := HK1.out; omega⟩, ⟨?_⟩, ⟨?_⟩, ⟨bB HB⟩⟩ <;> (with_reducible repeat (first | refine g_d ?_ _ | refine g_e ?_ | refine g_a ?_ _ | apply r_a | apply r_d | apply r_e)) <;> first | exact BK361.out | exact HO_9.out
/-! ### spec_riSeen: function 60 -/
def spec_riSeen.l0 : Nat → List Bool → List ByteArray → Int → Int → Int → Int → Option (List Bool)
  | 0, _, _, _, _, _, _ => none
  | k + 1, x5, x11, x12, x13, x367000, x367001 => if x13 < x12 then (if 0 ≤ x13 then (if x13 < (x11.length : Int) then ((spec_whNumber.f k x367000 x367001 (rdOf ByteArray.empty x11 x13)).bind fun t372 => (if 0 ≤ t372 then (if t372 < (x5.length : Int) then (spec_riSeen.l0 k (x5.set (t372 : Int).toNat true) x11 x12 (wrap64 (x13 + 1)) x367000 x367001) else (none)) else (none))) else (none)) else (none)) else (some x5)
def spec_riSeen.f (k : Nat) (a0_0 : Int) (a0_1 : Int) (l1 : List ByteArray) : Option (List Bool) := (spec_whCount.f k a0_0 a0_1).bind fun t367 => (if 0 ≤ t367 then (if (t367 : Int).toNat ≤ 281474976710656 then (spec_riSeen.l0 k (List.replicate (t367 : Int).toNat false) l1 (l1.length : Int) 0 a0_0 a0_1) else (none)) else (none))
theorem spec_riSeen.mono_l : ∀ k, (∀ y0 y1 y2 y3 y4 y5, LeO (spec_riSeen.l0 k y0 y1 y2 y3 y4 y5) (spec_riSeen.l0 (k + 1) y0 y1 y2 y3 y4 y5))
  | 0 => fun _ _ _ _ _ _ r h => by simp [spec_riSeen.l0] at h
  | k + 1 => by
    have ih0 := spec_riSeen.mono_l k
    · intro y0 y1 y2 y3 y4 y5
      unfold spec_riSeen.l0
      repeat' first
      | (with_reducible exact ih0 _ _ _ _ _ _)
      | (with_reducible exact spec_whCount.mono _ _ _)
      | (with_reducible exact spec_whNumber.mono _ _ _ _)
      | (with_reducible exact LeO.refl _)
      | (with_reducible exact LeO.none _)
      | (with_reducible refine LeO.ite ?_ ?_)
      | (with_reducible refine LeO.bind ?_ (fun _ => ?_))
      | exact ih0 _ _ _ _ _ _
      | exact spec_whCount.mono _ _ _
      | exact spec_whNumber.mono _ _ _ _
      | exact LeO.none _
      | refine LeO.ite ?_ ?_
      | refine LeO.bind ?_ (fun _ => ?_)
theorem spec_riSeen.mono : ∀ a0 a1 a2 k, LeO (spec_riSeen.f k a0 a1 a2) (spec_riSeen.f (k + 1) a0 a1 a2) := by
  intro a0 a1 a2 k
  have ih0 := spec_riSeen.mono_l k
  unfold spec_riSeen.f
  repeat' first
      | (with_reducible exact ih0 _ _ _ _ _ _)
      | (with_reducible exact spec_whCount.mono _ _ _)
      | (with_reducible exact spec_whNumber.mono _ _ _ _)
      | (with_reducible exact LeO.refl _)
      | (with_reducible exact LeO.none _)
      | (with_reducible refine LeO.ite ?_ ?_)
      | (with_reducible refine LeO.bind ?_ (fun _ => ?_))
      | exact ih0 _ _ _ _ _ _
      | exact spec_whCount.mono _ _ _
      | exact spec_whNumber.mono _ _ _ _
      | exact LeO.none _
      | refine LeO.ite ?_ ?_
      | refine LeO.bind ?_ (fun _ => ?_)
set_option maxHeartbeats 8000000 in
set_option maxRecDepth 100000 in
theorem spec_riSeen.calls (k : Nat) (a0_0 : Int) (a0_1 : Int) (A1 : Option Addr) (c1 : Nat) (l1 : List ByteArray) (r : List Bool) (w : World) (hr1 : Kd.C Kd.string w A1 l1.length l1) (hc1 : l1.length ≤ c1) (h : spec_riSeen.f k a0_0 a0_1 l1 = some r) :
    Calls Try.prog 60 #[.agg #[.int .i64 a0_0, .int .i64 a0_1], .slice A1 l1.length c1] w fun e w' => ∃ v0_ : Value, e = .returned (v0_) ∧ Kd.R Kd.bool 4 w' w.heap.size (fun _ => True) v0_ r ∧ Below w.heap.size w w' := by
  have hu26 := Try.underlying26
  have HR1 := Aside0.mk hr1
  have HC1 := Aside0.mk hc1
  clear hr1 hc1
  have HB := Aside0.mk (Below.refl w.heap.size w)
  have H : ((spec_whCount.f k a0_0 a0_1).bind fun t367 => (if 0 ≤ t367 then (if (t367 : Int).toNat ≤ 281474976710656 then (spec_riSeen.l0 k (List.replicate (t367 : Int).toNat false) l1 (l1.length : Int) 0 a0_0 a0_1) else (none)) else (none))) = some r := h
  clear h
  replace H := Option.bind_eq_some_iff.mp H
  obtain ⟨t367, A30, H⟩ := H
  try dsimp only at H
  have A3 := Aside0.mk A30
  clear A30
  by_cases c4 : 0 ≤ t367
  rotate_left
  · rw [if_neg c4] at H
    exact absurd H (by simp)

  rw [if_pos c4] at H
  have c4b0 := eq_true c4
  have c4b1 : decide (0 ≤ t367) = true := decide_eq_true c4
  clear c4
  by_cases c5 : (t367 : Int).toNat ≤ 281474976710656
  rotate_left
  · rw [if_neg c5] at H
    exact absurd H (by simp)
  rw [if_pos c5] at H
  have c5b0 := eq_true c5
  have c5b1 : decide ((t367 : Int).toNat ≤ 281474976710656) = true := decide_eq_true c5
  clear c5
  obtain ⟨y368, hy368⟩ : ∃ y_ : List Bool, y_ = (List.replicate (t367 : Int).toNat false) := ⟨_, rfl⟩
  replace H : (spec_riSeen.l0 k y368 l1 (l1.length : Int) 0 a0_0 a0_1) = some r := by first | (rw [hy368]; with_reducible exact H) | (have H2_ := (Option.bind_some _ _).symm.trans H; rw [hy368]; with_reducible exact H2_) | (have H2_ := (Option.bind_some _ _).symm.trans H; with_reducible exact H2_) | with_reducible exact H | (rw [hy368]; exact H) | exact H
  have Ny368 := Aside0.mk hy368
  clear hy368
  have H' := Aside0.mk H
  clear H
  go_enter Try.func60, Try.ntmps60
  go_wp2_with (first | ((with_reducible refine gate_dst (N := 2) rfl ?_); refine box_event ?hg (N := 2) ?hd (cs := #[.int .i64 a0_0, .int .i64 a0_1]) (t := 26) ?hr ?_; (case hd => rfl); (case hg => rfl); (case hr => first | (go_simp; done) | (go_simp; rfl)); intro gb366 hg w6 hbox hb; have n0_ := bsx hb HB; have n1_ := Aside0.mk (hbox); have n2_ := gwx hg HB; have n3_ := n2_; clear HB; have HB := n0_; have BK366 := n1_; have GW366 := n2_; have GE366 := n3_; clear n0_ n1_ n2_ n3_; clear hb hbox hg; have hcz7_0 := cz0 BK366; have hcz7_1 := cz1 BK366; have hfz7_0 := blk_frozen BK366.out 0; have hfz7_1 := blk_frozen BK366.out 1) | ((with_reducible refine gate_callee (f := 48) rfl ?_); refine goesL_ (some 9) rfl rfl Try.func48 (by kernel_rfl) rfl #[.agg #[.int .i64 a0_0, .int .i64 a0_1]] rfl (by (try simp only [m_1, m_2, m_3]); first | done | rfl | (simp only [m_4, m_5]; rfl)) ?_; (with_reducible refine (spec_whCount.calls k a0_0 a0_1 t367 _ A3.out).mono ?_); rintro e w8 ⟨rfl, hb⟩; refine ⟨_, rfl, ?_⟩; replace BK366 := bbx hb BK366; replace HB := bsx hb HB; skip; (try clear hb); (try clear hb2); (try clear hk); (try clear hi)) | ((with_reducible refine gate_dst (N := 10) rfl ?_); refine Kd.R_make Kd.bool _ 4 rfl (N := 10) rfl 66 _ _ rfl t367 rfl rfl Try.underlying66 (.bool false) 1 info4 rfl (by decide) (by omega) false (ok := fun _ => True) (okp := fun _ => True) rfl (fun _ hk => hk) trivial (of_decide_eq_true (by first | (with_reducible assumption) | assumption)) (Nat.le_trans (Nat.mul_le_mul_right _ (of_decide_eq_true (by first | (with_reducible assumption) | assumption) : t367.toNat ≤ 281474976710656)) (by omega)) (Below.refl _ _) (Nat.le_refl _) ?_; intro v369 w9 ho10 hb hg_ hnew_; clear hg_ hnew_; (first | rw [← Ny368.out] at ho10 | (simp only [Int.reduceToNat] at ho10; rw [← Ny368.out] at ho10)); have n0_ := Aside0.mk (Kd.R_lower ho10 (below_size (bB HB))); replace BK366 := bbx hb BK366; have n2_ := bsx hb HB; clear HB; have HO370 := n0_; have HB := n2_; clear n0_ n2_; clear hb ho10))
  go_loopg [13] k (fun kq v13 w' => ∃ (x5_1 : List Bool) (x13_1 : Int), v13 = .int .i64 x13_1 ∧ Aside0 (spec_riSeen.l0 kq x5_1 l1 (l1.length : Int) x13_1 a0_0 a0_1 = some r) ∧ Aside0 (kq ≤ k) ∧ Aside0 (Kd.R Kd.bool 4 w' w.heap.size (fun _ => True) v369 x5_1) ∧ Aside0 (w'.heap[gb366]? = some (.cells #[.int .i64 a0_0, .int .i64 a0_1] 26 (0, 0))) ∧ Aside0 (Below w.heap.size w w'))
  case atStart => refine ⟨(y368), (0), (by first | rfl | (simp; done) | (simp [*]; done)), H', ⟨Nat.le_refl _⟩, ⟨?_⟩, ⟨?_⟩, ⟨bB HB⟩⟩ <;> (with_reducible repeat (first | refine g_d ?_ _ | refine g_e ?_ | refine g_a ?_ _ | apply r_a | apply r_d | apply r_e)) <;> first | exact BK366.out | exact HO370.out
  clear H'
  try clear c1
  try clear c4
  try clear c4b0
  try clear c4b1
  try clear c5
  try clear c5b0
  try clear c5b1
  try clear hcz7_0
  try clear hcz7_1
  try clear hfz7_0
  try clear hfz7_1
  obtain ⟨x5_1, x13_1, rfl, HA, HK1, HO_5, BK366, HB⟩ := hrel
  rcases gk with _ | k1
  · exact absurd HA.out (by simp [spec_riSeen.l0])
  have H := HA.out
  clear HA
  simp only [spec_riSeen.l0] at H
  by_cases c11 : x13_1 < (l1.length : Int)
  rotate_left
  · rw [if_neg c11] at H
    have c11b0 : decide (x13_1 < (l1.length : Int)) = false := decide_eq_false c11
    clear c11
    obtain rfl := Option.some.inj H
    go_wp2
    go_ret
    exact ⟨_, by first | rfl | (simp [errW_none, errW_some] <;> rfl) | (simp [*, errW_none, errW_some] <;> rfl), by (with_reducible repeat (first | apply r_a | apply r_d | apply r_e)); exact HO_5.out, bB HB⟩
  rw [if_pos c11] at H
  have c11b0 : decide (x13_1 < (l1.length : Int)) = true := decide_eq_true c11
  clear c11
  by_cases c12 : 0 ≤ x13_1
  rotate_left
  · rw [if_neg c12] at H
    exact absurd H (by simp)
  rw [if_pos c12] at H
  have c12b0 : decide (0 ≤ x13_1) = true := decide_eq_true c12
  clear c12
  by_cases c13 : x13_1 < (l1.length : Int)
  rotate_left
  · rw [if_neg c13] at H
    exact absurd H (by simp)
  rw [if_pos c13] at H
  have c13b0 : decide (x13_1 < (l1.length : Int)) = true := decide_eq_true c13
  clear c13
  replace H := Option.bind_eq_some_iff.mp H
  obtain ⟨t372, A140, H⟩ := H
  try dsimp only at H
  have A14 := Aside0.mk A140
  clear A140
  by_cases c15 : 0 ≤ t372
  rotate_left
  · rw [if_neg c15] at H
    exact absurd H (by simp)
  rw [if_pos c15] at H
  have c15b0 : decide (0 ≤ t372) = true := decide_eq_true c15
  clear c15
  by_cases c16 : t372 < (x5_1.length : Int)
  rotate_left
  · rw [if_neg c16] at H
    exact absurd H (by simp)
  rw [if_pos c16] at H
  have c16b0 : decide (t372 < (x5_1.length : Int)) = true := decide_eq_true c16
  clear c16
  obtain ⟨y373, hy373⟩ : ∃ y_ : List Bool, y_ = (x5_1.set (t372 : Int).toNat true) := ⟨_, rfl⟩
  replace H : (spec_riSeen.l0 k1 y373 l1 (l1.length : Int) (wrap64 (x13_1 + 1)) a0_0 a0_1) = some r := by first | (rw [hy373]; with_reducible exact H) | (have H2_ := (Option.bind_some _ _).symm.trans H; rw [hy373]; with_reducible exact H2_) | (have H2_ := (Option.bind_some _ _).symm.trans H; with_reducible exact H2_) | with_reducible exact H | (rw [hy373]; exact H) | exact H
  have Ny373 := Aside0.mk hy373
  clear hy373
  have H' := Aside0.mk H
  clear H
  have p371 : 0 ≤ (x13_1 : Int) := of_decide_eq_true (by first | (with_reducible assumption) | assumption)
  have q371 : x13_1 < (l1.length : Int) := of_decide_eq_true (by first | (with_reducible assumption) | assumption)
  obtain ⟨ad371, e371, hx371_0⟩ := Kd.at_string HR1.out x13_1 p371 q371
  cases e371
  replace hx371_0 := (HB.out.cell (World.block_lt_of_cell? w _ hx371_0)).trans hx371_0
  replace p371 := eq_true p371
  replace q371 := eq_true q371
  have hcz18_0 := cz0 BK366
  have hcz18_1 := cz1 BK366
  have hfz18_0 := blk_frozen BK366.out 0
  have hfz18_1 := blk_frozen BK366.out 1
  go_wp2_with (first | ((with_reducible refine gate_callee (f := 74) rfl ?_); refine goesL_ (some 20) rfl rfl Try.func74 (by kernel_rfl) rfl #[.agg #[.int .i64 a0_0, .int .i64 a0_1], .string (rdOf ByteArray.empty l1 x13_1)] rfl (by (try simp only [m_1, m_2, m_3]); first | done | rfl | (simp only [m_4, m_5]; rfl)) ?_; (with_reducible refine (spec_whNumber.calls k1 a0_0 a0_1 (rdOf ByteArray.empty l1 x13_1) t372 _ A14.out).mono ?_); rintro e w19 ⟨rfl, hb⟩; refine ⟨_, rfl, ?_⟩; have n0_ := Aside0.mk (Kd.R_below (by (with_reducible repeat (first | apply r_a | apply r_d | apply r_e)); exact HO_5.out) hb); replace BK366 := bbx hb BK366; replace HB := bsx hb HB; clear HO_5; have HO_5 := n0_; clear n0_; (try clear hb); (try clear hb2); (try clear hk); (try clear hi); have p17 : 0 ≤ (t372 : Int) := of_decide_eq_true (by first | (with_reducible assumption) | assumption); have q17 : (t372 : Int) < ((x5_1.length : Int) : Int) := of_decide_eq_true (by first | (with_reducible assumption) | assumption); obtain ⟨go17, co17, eo17, gb17, gl17, cl17, HG17⟩ := Kd.R_form HO_5.out (by omega); (first | cases eo17 | (injection eo17 with ea_ en_ ec_; (first | subst ea_ | (injection ea_ with ea_; subst ea_)); subst ec_; clear en_)); have GB17 := Aside0.mk gb17; have GG17 := Aside0.mk HG17; clear gb17 gl17 HG17; obtain ⟨hx17_0, hf17_0⟩ := Kd.R_celln false HO_5.out (t372 : Int) p17 q17; replace p17 := eq_true p17; replace q17 := eq_true q17; obtain ⟨hy20_, hz20_⟩ := Kd.R_celln false HO_5.out (t372 : Int) (of_decide_eq_true (by first | (with_reducible assumption) | assumption)) (of_decide_eq_true (by first | (with_reducible assumption) | assumption)); have HP20 := Kd.R_putg HO_5.out (t372 : Int) true) | ((with_reducible refine gate_store (t := 4) (p := 21) rfl ?_); refine store_event (t := 4) (p := 21) (v := ?vo_w21) (w1 := (w19.setCell ⟨go17, (t372 : Int).toNat, none⟩ (.bool true))) ?hg ?ho ?hn ?hr ?_; (case ho => rfl); (case hg => rfl); (case hn => rfl); (case hr => first | (go_simp; done) | (go_simp; rfl)); intro w21 hw; have hg : w19.grownBy w21 (some go17) := (by rw [hw]; exact HP20.2); have hp_ : Kd.R Kd.bool 4 w21 w.heap.size (fun _ => True) (.slice (some ⟨go17, 0, none⟩) x5_1.length co17) y373 := (by rw [hw, Ny373.out]; exact HP20.1); clear HP20; have n0_ := Aside0.mk (hp_); have n1_ := Aside0.mk (blk_grown (g := gb366) (o := .cells #[.int .i64 a0_0, .int .i64 a0_1] 26 (0, 0)) (bK BK366) hg (Kd.R_ne HO_5.out BK366.out (by decide))); have n2_ := Aside0.mk ((by rw [hw]; exact b_s (HB.out) GB17.out : Below w.heap.size w w21)); clear HO_5; clear BK366; clear HB; have HO_5 := n0_; have BK366 := n1_; have HB := n2_; clear n0_ n1_ n2_; clear hg hw hp_))
  go_roundg k1
  case measure => have := HK1.out; omega
  case rel => refine ⟨(y373), (wrap64 (x13_1 + 1)), (by first | rfl | (simp; done) | (simp [*]; done)), H', ⟨by have := HK1.out; omega⟩, ⟨?_⟩, ⟨?_⟩, ⟨bB HB⟩⟩ <;> (with_reducible repeat (first | refine g_d ?_ _ | refine g_e ?_ | refine g_a ?_ _ | apply r_a | apply r_d | apply r_e)) <;> first | exact BK366.out | exact HO_5.out
/-! ### spec_riRing: function 34 -/
mutual
def spec_riRing.j0 : Nat → ByteArray → Bool → Int → Int → Option (Bool)
  | 0, _, _, _, _ => none
  | k + 1, x1, x17, x375000, x375001 => if x17 = true then (some false) else ((spec_riCodes.f k x375000 x375001 x1 true).bind fun t377 => ((spec_riSeen.f k x375000 x375001 t377).bind fun t380 => (spec_riRing.l0 k t380 (t380.length : Int) 0)))
def spec_riRing.l0 : Nat → List Bool → Int → Int → Option (Bool)
  | 0, _, _, _ => none
  | k + 1, x22, x23, x24 => if x24 < x23 then (if 0 ≤ x24 then (if x24 < (x22.length : Int) then (if rdOf false x22 x24 = true then (spec_riRing.l0 k x22 x23 (wrap64 (x24 + 1))) else (some false)) else (none)) else (none)) else (some true)
end
def spec_riRing.f (k : Nat) (a0_0 : Int) (a0_1 : Int) (a1 : ByteArray) : Option (Bool) := (spec_whCount.f k a0_0 a0_1).bind fun t375 => (if (a1.size : Int) = t375 then ((spec_riText.f a0_0 a0_1 a1).bind fun t376 => (spec_riRing.j0 k a1 (!t376) a0_0 a0_1)) else (spec_riRing.j0 k a1 true a0_0 a0_1))
theorem spec_riRing.mono_l : ∀ k, (∀ y0 y1 y2 y3, LeO (spec_riRing.j0 k y0 y1 y2 y3) (spec_riRing.j0 (k + 1) y0 y1 y2 y3)) ∧ (∀ y0 y1 y2, LeO (spec_riRing.l0 k y0 y1 y2) (spec_riRing.l0 (k + 1) y0 y1 y2))
  | 0 => ⟨fun _ _ _ _ r h => by simp [spec_riRing.j0] at h, fun _ _ _ r h => by simp [spec_riRing.l0] at h⟩
  | k + 1 => by
    obtain ⟨ih0, ih1⟩ := spec_riRing.mono_l k
    refine ⟨?_, ?_⟩
    rotate_left
    · intro y0 y1 y2
      unfold spec_riRing.l0
      repeat' first
      | (with_reducible exact ih0 _ _ _ _)
      | (with_reducible exact ih1 _ _ _)
      | (with_reducible exact spec_riCodes.mono _ _ _ _ _)
      | (with_reducible exact spec_riSeen.mono _ _ _ _)
      | (with_reducible exact spec_whCount.mono _ _ _)
      | (with_reducible exact LeO.refl _)
      | (with_reducible exact LeO.none _)
      | (with_reducible refine LeO.ite ?_ ?_)
      | (with_reducible refine LeO.bind ?_ (fun _ => ?_))
      | exact ih0 _ _ _ _
      | exact ih1 _ _ _
      | exact spec_riCodes.mono _ _ _ _ _
      | exact spec_riSeen.mono _ _ _ _
      | exact spec_whCount.mono _ _ _
      | exact LeO.none _
      | refine LeO.ite ?_ ?_
      | refine LeO.bind ?_ (fun _ => ?_)
    intro y0 y1 y2 y3
    unfold spec_riRing.j0
    repeat' first
    | (with_reducible exact ih0 _ _ _ _)
    | (with_reducible exact ih1 _ _ _)
    | (with_reducible exact spec_riCodes.mono _ _ _ _ _)
    | (with_reducible exact spec_riSeen.mono _ _ _ _)
    | (with_reducible exact spec_whCount.mono _ _ _)
    | (with_reducible exact LeO.refl _)
    | (with_reducible exact LeO.none _)
    | (with_reducible refine LeO.ite ?_ ?_)
    | (with_reducible refine LeO.bind ?_ (fun _ => ?_))
    | exact ih0 _ _ _ _
    | exact ih1 _ _ _
    | exact spec_riCodes.mono _ _ _ _ _
    | exact spec_riSeen.mono _ _ _ _
    | exact spec_whCount.mono _ _ _
    | exact LeO.none _
    | refine LeO.ite ?_ ?_
    | refine LeO.bind ?_ (fun _ => ?_)
theorem spec_riRing.mono : ∀ a0 a1 a2 k, LeO (spec_riRing.f k a0 a1 a2) (spec_riRing.f (k + 1) a0 a1 a2) := by
  intro a0 a1 a2 k
  obtain ⟨ih0, ih1⟩ := spec_riRing.mono_l k
  unfold spec_riRing.f
  repeat' first
      | (with_reducible exact ih0 _ _ _ _)
      | (with_reducible exact ih1 _ _ _)
      | (with_reducible exact spec_riCodes.mono _ _ _ _ _)
      | (with_reducible exact spec_riSeen.mono _ _ _ _)
      | (with_reducible exact spec_whCount.mono _ _ _)
      | (with_reducible exact LeO.refl _)
      | (with_reducible exact LeO.none _)
      | (with_reducible refine LeO.ite ?_ ?_)
      | (with_reducible refine LeO.bind ?_ (fun _ => ?_))
      | exact ih0 _ _ _ _
      | exact ih1 _ _ _
      | exact spec_riCodes.mono _ _ _ _ _
      | exact spec_riSeen.mono _ _ _ _
      | exact spec_whCount.mono _ _ _
      | exact LeO.none _
      | refine LeO.ite ?_ ?_
      | refine LeO.bind ?_ (fun _ => ?_)
set_option maxHeartbeats 8000000 in
set_option maxRecDepth 100000 in
theorem spec_riRing.calls (k : Nat) (a0_0 : Int) (a0_1 : Int) (a1 : ByteArray) (r : Bool) (w : World) (h : spec_riRing.f k a0_0 a0_1 a1 = some r) :
    Calls Try.prog 34 #[.agg #[.int .i64 a0_0, .int .i64 a0_1], .string a1] w fun e w' => e = .returned (.bool r) ∧ Below w.heap.size w w' := by
  have hu26 := Try.underlying26
  have HB := Aside0.mk (Below.refl w.heap.size w)
  have H : ((spec_whCount.f k a0_0 a0_1).bind fun t375 => (if (a1.size : Int) = t375 then ((spec_riText.f a0_0 a0_1 a1).bind fun t376 => (spec_riRing.j0 k a1 (!t376) a0_0 a0_1)) else (spec_riRing.j0 k a1 true a0_0 a0_1))) = some r := h
  clear h
  have HC3 := Aside0.mk H
  clear H
  go_enter Try.func34, Try.ntmps34
  go_upto_region 1 with (first | ((with_reducible refine gate_dst (N := 2) rfl ?_); refine box_event ?hg (N := 2) ?hd (cs := #[.int .i64 a0_0, .int .i64 a0_1]) (t := 26) ?hr ?_; (case hd => rfl); (case hg => rfl); (case hr => first | (go_simp; done) | (go_simp; rfl)); intro gb374 hg w4 hbox hb; have n0_ := bsx hb HB; have n1_ := Aside0.mk (hbox); have n2_ := gwx hg HB; have n3_ := n2_; clear HB; have HB := n0_; have BK374 := n1_; have GW374 := n2_; have GE374 := n3_; clear n0_ n1_ n2_ n3_; clear hb hbox hg))
  (try simp only [Act.put, s_1, s_2, s_3])
  go_cut [17] (fun v17 wc => ∃ (kq : Nat) (x17_2 : Bool), v17 = .bool x17_2 ∧ Aside0 (spec_riRing.j0 kq a1 x17_2 a0_0 a0_1 = some r) ∧ Aside0 (kq ≤ k) ∧ Aside0 (wc.heap[gb374]? = some (.cells #[.int .i64 a0_0, .int .i64 a0_1] 26 (0, 0))) ∧ Aside0 (Below w.heap.size w wc))
  case first =>
    have H := HC3.out
    clear HC3
    replace H := Option.bind_eq_some_iff.mp H
    obtain ⟨t375, A50, H⟩ := H
    try dsimp only at H
    have A5 := Aside0.mk A50
    clear A50
    by_cases c6 : (a1.size : Int) = t375
    rotate_left
    · rw [if_neg c6] at H
      have c6b0 : ((a1.size : Int) == t375) = false := beq_eq_false_iff_ne.mpr c6
      have c6b1 : ((a1.size : Int) != t375) = true := bne_iff_ne.mpr c6
      (first | rw [c6b0] | (simp only [i64_w, i32_w]; rw [c6b0]) | skip)
      have H' := Aside0.mk H
      clear H
      have hcz12_0 := cz0 BK374
      have hcz12_1 := cz1 BK374
      have hfz12_0 := blk_frozen BK374.out 0
      have hfz12_1 := blk_frozen BK374.out 1
      go_wp2_with (first | ((with_reducible refine gate_callee (f := 48) rfl ?_); refine goesL_ (some 10) rfl rfl Try.func48 (by kernel_rfl) rfl #[.agg #[.int .i64 a0_0, .int .i64 a0_1]] rfl (by (try simp only [m_1, m_2, m_3]); first | done | rfl | (simp only [m_4, m_5]; rfl)) ?_; (with_reducible refine (spec_whCount.calls k a0_0 a0_1 t375 _ A5.out).mono ?_); rintro e w13 ⟨rfl, hb⟩; refine ⟨_, rfl, ?_⟩; replace BK374 := bbx hb BK374; replace HB := bsx hb HB; skip; (try clear hb); (try clear hb2); (try clear hk); (try clear hi)))
      go_meet
      case rel => exact ⟨_, (true), (by first | rfl | (simp; done) | (simp [*]; done)), H', ⟨by first | omega | exact Nat.le_refl _⟩, ⟨bK BK374⟩, ⟨bB HB⟩⟩
    rw [if_pos c6] at H
    have c6b0 : ((a1.size : Int) == t375) = true := beq_iff_eq.mpr c6
    have c6b1 : ((a1.size : Int) != t375) = false := bne_eq_false_iff_eq.mpr c6
    clear c6
    (first | rw [c6b0] | (simp only [i64_w, i32_w]; rw [c6b0]) | skip)
    replace H := Option.bind_eq_some_iff.mp H
    obtain ⟨t376, A70, H⟩ := H
    try dsimp only at H
    have A7 := Aside0.mk A70
    clear A70
    have H' := Aside0.mk H
    clear H
    have hcz8_0 := cz0 BK374
    have hcz8_1 := cz1 BK374
    have hfz8_0 := blk_frozen BK374.out 0
    have hfz8_1 := blk_frozen BK374.out 1
    go_wp2_with (first | ((with_reducible refine gate_callee (f := 48) rfl ?_); refine goesL_ (some 10) rfl rfl Try.func48 (by kernel_rfl) rfl #[.agg #[.int .i64 a0_0, .int .i64 a0_1]] rfl (by (try simp only [m_1, m_2, m_3]); first | done | rfl | (simp only [m_4, m_5]; rfl)) ?_; (with_reducible refine (spec_whCount.calls k a0_0 a0_1 t375 _ A5.out).mono ?_); rintro e w9 ⟨rfl, hb⟩; refine ⟨_, rfl, ?_⟩; replace BK374 := bbx hb BK374; replace HB := bsx hb HB; skip; (try clear hb); (try clear hb2); (try clear hk); (try clear hi); have hcz10_0 := cz0 BK374; have hcz10_1 := cz1 BK374; have hfz10_0 := blk_frozen BK374.out 0; have hfz10_1 := blk_frozen BK374.out 1) | (go_at_call 59; (with_reducible refine (spec_riText.calls a0_0 a0_1 a1 t376 _ A7.out).mono ?_); rintro e w11 ⟨rfl, hb⟩; replace BK374 := bbx hb BK374; replace HB := bsx hb HB; skip; (try clear hb); (try clear hb2); (try clear hk); (try clear hi)))
    go_meet
    case rel => exact ⟨_, (!t376), (by first | rfl | (simp; done) | (simp [*]; done)), H', ⟨by first | omega | exact Nat.le_refl _⟩, ⟨bK BK374⟩, ⟨bB HB⟩⟩
  clear HC3
  obtain ⟨kq, x17_2, rfl, HA, HJ2, BK374, HB⟩ := hcut
  rcases kq with _ | kj2
  · exact absurd HA.out (by simp [spec_riRing.j0])
  have H := HA.out
  clear HA
  simp only [spec_riRing.j0] at H
  by_cases c14 : x17_2 = true
  · subst c14
    rw [if_pos rfl] at H
    obtain rfl := Option.some.inj H
    go_wp2
    go_ret
    exact ⟨by first | rfl | (simp [errW_none, errW_some] <;> rfl) | (simp [*, errW_none, errW_some] <;> rfl), bB HB⟩
  replace c14 := Bool.eq_false_iff.mpr c14
  subst c14
  rw [if_neg (show ¬ (false = true) by decide)] at H
  replace H := Option.bind_eq_some_iff.mp H
  obtain ⟨t377, A150, H⟩ := H
  try dsimp only at H
  have A15 := Aside0.mk A150
  clear A150
  replace H := Option.bind_eq_some_iff.mp H
  obtain ⟨t380, A160, H⟩ := H
  try dsimp only at H
  have A16 := Aside0.mk A160
  clear A160
  have H' := Aside0.mk H
  clear H
  try go_wp2
  have n0_ := Aside0.mk (g_e BK374.out)
  have n1_ := Aside0.mk (b_e HB.out)
  clear BK374
  clear HB
  have BK374 := n0_
  have HB := n1_
  clear n0_ n1_
  refine start_ (n := 7) (S := fun w' => w'.cell? ⟨gb374, 0, none⟩ = some (.int .i64 a0_0) ∧ w'.cell? ⟨gb374, 1, none⟩ = some (.int .i64 a0_1)) (ds := []) (bs_ 7 0) (by kernel_rfl) rfl rfl ⟨(blk_cell BK374.out 0).trans rfl, (blk_cell BK374.out 1).trans rfl⟩ (fun hHeld => ?_)
  generalize wc.drew = w17 at BK374 HB hHeld ⊢
  refine pure_ (i := 2) (N := some 20) (v := ?_) (a' := ?_) (bs_ 7 4) rfl rfl (by kernel_rfl) (fun _ _ _ h => h) (Or.inl ⟨by rfl, ?_⟩) ?_ ?_
  rotate_left
  · intro w'
    go_simp
    with_reducible rfl
  rotate_left
  · simp only [Act.put, s_1, s_2, s_3, i64_w, i32_w]
    rfl
  refine pure_ (i := 6) (N := some 24) (v := ?_) (a' := ?_) (bs_ 7 68) rfl rfl (by kernel_rfl) (fun _ _ _ h => h) (Or.inl ⟨by rfl, ?_⟩) ?_ ?_
  rotate_left
  · intro w'
    go_simp
    with_reducible rfl
  rotate_left
  · simp only [Act.put, s_1, s_2, s_3, i64_w, i32_w]
    rfl
  refine take_ (i := 0) (N := some 18) (v := ?_) (a' := ?_) (bs_ 7 69) rfl rfl (by kernel_rfl) (fun _ _ _ h => h) (Or.inl ⟨by rfl, ?_⟩) hHeld ?_ ?_
  rotate_left
  · rintro w' ⟨s0, s1⟩
    go_simp
    with_reducible rfl
  rotate_left
  · simp only [Act.put, s_1, s_2, s_3, i64_w, i32_w]
    rfl
  refine take_ (i := 1) (N := some 19) (v := ?_) (a' := ?_) (bs_ 7 71) rfl rfl (by kernel_rfl) (fun _ _ _ h => h) (Or.inl ⟨by rfl, ?_⟩) hHeld ?_ ?_
  rotate_left
  · rintro w' ⟨s0, s1⟩
    go_simp
    with_reducible rfl
  rotate_left
  · simp only [Act.put, s_1, s_2, s_3, i64_w, i32_w]
    rfl
  refine one_ (i := 3) (N := some 21) (bs_ 7 79) rfl rfl (by kernel_rfl) (by decide) (fun K hK => ?_)
  refine goes_ Try.func27 (by kernel_rfl) rfl #[.agg #[.int .i64 a0_0, .int .i64 a0_1], .string a1, .bool true] (by rfl) rfl rfl (by (try simp only [m_1, m_2, m_3]); first | done | rfl | (simp only [m_4, m_5]; rfl)) ?_
  with_reducible refine (spec_riCodes.calls kj2 a0_0 a0_1 a1 true t377 _ A15.out).mono ?_
  rintro e w18 ⟨v378, rfl, ho0, hb⟩
  refine ⟨_, rfl, ?_⟩
  have n0_ := Aside0.mk (Kd.R_lower ho0 (below_size (bB HB)))
  have n1_ := bbx hb BK374
  have n2_ := bsx hb HB
  clear BK374
  clear HB
  have HO379 := n0_
  have BK374 := n1_
  have HB := n2_
  clear n0_ n1_ n2_
  (try clear hb)
  (try clear hb2)
  (try clear hk)
  (try clear hi)
  (try clear ho0)
  obtain ⟨Ao19, co19, eo19⟩ := Kd.R_slice HO379.out
  (first | subst eo19 | (injection eo19 with f1_ f2_ f3_; have f4_ := f1_.symm; have f5_ := f3_.symm; clear f1_ f2_ f3_; subst f4_; subst f5_))
  refine hK.out _ _ ⟨(blk_cell BK374.out 0).trans rfl, (blk_cell BK374.out 1).trans rfl⟩ (fun hHeld => ?_)
  clear hK K
  refine norm_ (a' := ?_) ?_ ?_
  rotate_left
  · show Act.put _ (some 21) _ = _
    simp only [Act.put, s_1, s_2, s_3, i64_w, i32_w]
    rfl
  refine one_ (i := 4) (N := some 22) (bs_ 7 95) rfl rfl (by kernel_rfl) (by decide) (fun K hK => ?_)
  refine goes_ Try.func60 (by kernel_rfl) rfl #[.agg #[.int .i64 a0_0, .int .i64 a0_1], .slice Ao19 t377.length co19] (by rfl) rfl rfl (by (try simp only [m_1, m_2, m_3]); first | done | rfl | (simp only [m_4, m_5]; rfl)) ?_
  with_reducible refine (spec_riSeen.calls kj2 a0_0 a0_1 _ _ t377 t380 _ ?side1 ?side2 A16.out).mono ?_
  (case side1 => repeat (first | exact (Kd.R_reads' HO379.out).2.2 | (with_reducible refine Kd.C_alloc ?_ _) | (with_reducible refine Kd.C_drewN ?_ _) | (with_reducible refine Kd.C_drew ?_)))
  (case side2 => exact (Kd.R_reads' HO379.out).2.1)
  rintro e w20 ⟨v381, rfl, ho0, hb⟩
  refine ⟨_, rfl, ?_⟩
  have n0_ := Aside0.mk (Kd.R_below (by (with_reducible repeat (first | apply r_a | apply r_d | apply r_e)); exact HO379.out) hb)
  have n1_ := Aside0.mk (Kd.R_lower ho0 (below_size (bB HB)))
  have n2_ := bbx hb BK374
  have n3_ := bsx hb HB
  clear HO379
  clear BK374
  clear HB
  have HO379 := n0_
  have HO382 := n1_
  have BK374 := n2_
  have HB := n3_
  clear n0_ n1_ n2_ n3_
  (try clear hb)
  (try clear hb2)
  (try clear hk)
  (try clear hi)
  (try clear ho0)
  obtain ⟨Ao21, co21, eo21⟩ := Kd.R_slice HO382.out
  (first | subst eo21 | (injection eo21 with f1_ f2_ f3_; have f4_ := f1_.symm; have f5_ := f3_.symm; clear f1_ f2_ f3_; subst f4_; subst f5_))
  refine hK.out _ _ ⟨(blk_cell BK374.out 0).trans rfl, (blk_cell BK374.out 1).trans rfl⟩ (fun hHeld => ?_)
  clear hK K
  refine norm_ (a' := ?_) ?_ ?_
  rotate_left
  · show Act.put _ (some 22) _ = _
    simp only [Act.put, s_1, s_2, s_3, i64_w, i32_w]
    rfl
  refine pure_ (i := 5) (N := some 23) (v := ?_) (a' := ?_) (bs_ 7 127) rfl rfl (by kernel_rfl) (fun _ _ _ h => h) (Or.inl ⟨by rfl, ?_⟩) ?_ ?_
  rotate_left
  · intro w'
    go_simp
    with_reducible rfl
  rotate_left
  · simp only [Act.put, s_1, s_2, s_3, i64_w, i32_w]
    rfl
  refine done_ (by kernel_rfl) ?_
  try go_wp2
  go_loopg [24] kj2 (fun kq v24 w' => ∃ (x24_2 : Int), v24 = .int .i64 x24_2 ∧ Aside0 (spec_riRing.l0 kq t380 (t380.length : Int) x24_2 = some r) ∧ Aside0 (kq ≤ kj2) ∧ Aside0 (Kd.R Kd.bool 4 w' w.heap.size (fun _ => True) (.slice Ao21 t380.length co21) t380) ∧ Aside0 (w'.heap[gb374]? = some (.cells #[.int .i64 a0_0, .int .i64 a0_1] 26 (0, 0))) ∧ Aside0 (Below w.heap.size w w'))
  case atStart => refine ⟨(0), (by first | rfl | (simp; done) | (simp [*]; done)), H', ⟨Nat.le_refl _⟩, ⟨?_⟩, ⟨?_⟩, ⟨bB HB⟩⟩ <;> (with_reducible repeat (first | refine g_d ?_ _ | refine g_e ?_ | refine g_a ?_ _ | apply r_a | apply r_d | apply r_e)) <;> first | exact BK374.out | exact HO382.out
  clear H'
  try clear c14
  obtain ⟨x24_2, rfl, HA, HK2, HO_22, BK374, HB⟩ := hrel
  rcases gk with _ | k2
  · exact absurd HA.out (by simp [spec_riRing.l0])
  have H := HA.out
  clear HA
  simp only [spec_riRing.l0] at H
  by_cases c22 : x24_2 < (t380.length : Int)
  rotate_left
  · rw [if_neg c22] at H
    have c22b0 : decide (x24_2 < (t380.length : Int)) = false := decide_eq_false c22
    clear c22
    obtain rfl := Option.some.inj H
    go_wp2
    go_ret
    exact ⟨by first | rfl | (simp [errW_none, errW_some] <;> rfl) | (simp [*, errW_none, errW_some] <;> rfl), bB HB⟩

  rw [if_pos c22] at H
  have c22b0 : decide (x24_2 < (t380.length : Int)) = true := decide_eq_true c22
  clear c22
  by_cases c23 : 0 ≤ x24_2
  rotate_left
  · rw [if_neg c23] at H
    exact absurd H (by simp)
  rw [if_pos c23] at H
  have c23b0 : decide (0 ≤ x24_2) = true := decide_eq_true c23
  clear c23
  by_cases c24 : x24_2 < (t380.length : Int)
  rotate_left
  · rw [if_neg c24] at H
    exact absurd H (by simp)
  rw [if_pos c24] at H
  have c24b0 : decide (x24_2 < (t380.length : Int)) = true := decide_eq_true c24
  clear c24
  obtain ⟨bq25, hbq25⟩ : ∃ b_ : Bool, b_ = (rdOf false t380 x24_2) := ⟨_, rfl⟩
  replace H : (if bq25 = true then (spec_riRing.l0 k2 t380 (t380.length : Int) (wrap64 (x24_2 + 1))) else (some false)) = some r := by rw [← hbq25] at H; exact H
  have Nbq25 := Aside0.mk hbq25
  clear hbq25
  by_cases c26 : bq25 = true
  rotate_left
  · replace c26 := Bool.eq_false_iff.mpr c26
    subst c26
    rw [if_neg (show ¬ (false = true) by decide)] at H
    obtain rfl := Option.some.inj H
    have p383 : 0 ≤ (x24_2 : Int) := of_decide_eq_true (by first | (with_reducible assumption) | assumption)
    have q383 : x24_2 < (t380.length : Int) := of_decide_eq_true (by first | (with_reducible assumption) | assumption)
    obtain ⟨ad383, e383, hx383_0⟩ := Kd.at_bool (Kd.R_reads' HO_22.out).2.2 x24_2 p383 q383
    (try rw [← Nbq25.out] at hx383_0)
    cases e383
    replace p383 := eq_true p383
    replace q383 := eq_true q383
    go_wp2
    go_ret
    exact ⟨by first | rfl | (simp [errW_none, errW_some] <;> rfl) | (simp [*, errW_none, errW_some] <;> rfl), bB HB⟩
  subst c26
  rw [if_pos rfl] at H
  have H' := Aside0.mk H
  clear H
  have p383 : 0 ≤ (x24_2 : Int) := of_decide_eq_true (by first | (with_reducible assumption) | assumption)
  have q383 : x24_2 < (t380.length : Int) := of_decide_eq_true (by first | (with_reducible assumption) | assumption)
  obtain ⟨ad383, e383, hx383_0⟩ := Kd.at_bool (Kd.R_reads' HO_22.out).2.2 x24_2 p383 q383
  (try rw [← Nbq25.out] at hx383_0)
  cases e383
  replace p383 := eq_true p383
  replace q383 := eq_true q383
  go_wp2
  go_roundg k2
  case measure => have := HJ2.out; have := HK2.out; omega
  case rel => refine ⟨(wrap64 (x24_2 + 1)), (by first | rfl | (simp; done) | (simp [*]; done)), H', ⟨by have := HJ2.out; have := HK2.out; omega⟩, ⟨?_⟩, ⟨?_⟩, ⟨bB HB⟩⟩ <;> (with_reducible repeat (first | refine g_d ?_ _ | refine g_e ?_ | refine g_a ?_ _ | apply r_a | apply r_d | apply r_e)) <;> first | exact BK374.out | exact HO_22.out
/-! ### spec_IsRing: function 9 -/
def spec_IsRing.f (k : Nat) (a0_0 : Int) (a0_1 : Int) (a1 : ByteArray) : Option (Bool × Bool) := (spec_riGood.f k a0_0 a0_1).bind fun t385 => (if t385 = true then ((spec_riRing.f k a0_0 a0_1 a1).bind fun t386 => (some (t386, true))) else (some (false, false)))
theorem spec_IsRing.mono : ∀ a0 a1 a2 k, LeO (spec_IsRing.f k a0 a1 a2) (spec_IsRing.f (k + 1) a0 a1 a2) := by
  intro a0 a1 a2 k
  unfold spec_IsRing.f
  repeat' first
      | (with_reducible exact spec_riGood.mono _ _ _)
      | (with_reducible exact spec_riRing.mono _ _ _ _)
      | (with_reducible exact LeO.refl _)
      | (with_reducible exact LeO.none _)
      | (with_reducible refine LeO.ite ?_ ?_)
      | (with_reducible refine LeO.bind ?_ (fun _ => ?_))
      | exact spec_riGood.mono _ _ _
      | exact spec_riRing.mono _ _ _ _
      | exact LeO.none _
      | refine LeO.ite ?_ ?_
      | refine LeO.bind ?_ (fun _ => ?_)
set_option maxHeartbeats 8000000 in
set_option maxRecDepth 100000 in
theorem spec_IsRing.calls (k : Nat) (a0_0 : Int) (a0_1 : Int) (a1 : ByteArray) (r1 : Bool) (r2 : Bool) (w : World) (h : spec_IsRing.f k a0_0 a0_1 a1 = some (r1, r2)) :
    Calls Try.prog 9 #[.agg #[.int .i64 a0_0, .int .i64 a0_1], .string a1] w fun e w' => e = .returned (.tuple #[.bool r1, .bool r2]) ∧ Below w.heap.size w w' := by
  have hu26 := Try.underlying26
  have HB := Aside0.mk (Below.refl w.heap.size w)
  have H : ((spec_riGood.f k a0_0 a0_1).bind fun t385 => (if t385 = true then ((spec_riRing.f k a0_0 a0_1 a1).bind fun t386 => (some (t386, true))) else (some (false, false)))) = some (r1, r2) := h
  clear h
  replace H := Option.bind_eq_some_iff.mp H
  obtain ⟨t385, A30, H⟩ := H
  try dsimp only at H
  have A3 := Aside0.mk A30
  clear A30
  by_cases c4 : t385 = true
  rotate_left
  · replace c4 := Bool.eq_false_iff.mpr c4
    subst c4
    rw [if_neg (show ¬ (false = true) by decide)] at H
    simp only [Option.some.injEq, Prod.mk.injEq] at H
    obtain ⟨rfl, rfl⟩ := H
    go_enter Try.func9, Try.ntmps9
    go_wp2_with (first | ((with_reducible refine gate_dst (N := 2) rfl ?_); refine box_event ?hg (N := 2) ?hd (cs := #[.int .i64 a0_0, .int .i64 a0_1]) (t := 26) ?hr ?_; (case hd => rfl); (case hg => rfl); (case hr => first | (go_simp; done) | (go_simp; rfl)); intro gb384 hg w11 hbox hb; have n0_ := bsx hb HB; have n1_ := Aside0.mk (hbox); have n2_ := gwx hg HB; have n3_ := n2_; clear HB; have HB := n0_; have BK384 := n1_; have GW384 := n2_; have GE384 := n3_; clear n0_ n1_ n2_ n3_; clear hb hbox hg; have hcz12_0 := cz0 BK384; have hcz12_1 := cz1 BK384; have hfz12_0 := blk_frozen BK384.out 0; have hfz12_1 := blk_frozen BK384.out 1) | ((with_reducible refine gate_callee (f := 25) rfl ?_); refine goesL_ (some 7) rfl rfl Try.func25 (by kernel_rfl) rfl #[.agg #[.int .i64 a0_0, .int .i64 a0_1]] rfl (by (try simp only [m_1, m_2, m_3]); first | done | rfl | (simp only [m_4, m_5]; rfl)) ?_; (with_reducible refine (spec_riGood.calls k a0_0 a0_1 false _ A3.out).mono ?_); rintro e w13 ⟨rfl, hb⟩; refine ⟨_, rfl, ?_⟩; replace BK384 := bbx hb BK384; replace HB := bsx hb HB; skip; (try clear hb); (try clear hb2); (try clear hk); (try clear hi)))
    go_ret2
    exact ⟨by first | rfl | (simp [errW_none, errW_some] <;> rfl) | (simp [*, errW_none, errW_some] <;> rfl), bB HB⟩

  subst c4
  rw [if_pos rfl] at H
  replace H := Option.bind_eq_some_iff.mp H
  obtain ⟨t386, A50, H⟩ := H
  try dsimp only at H
  have A5 := Aside0.mk A50
  clear A50
  simp only [Option.some.injEq, Prod.mk.injEq] at H
  obtain ⟨rfl, rfl⟩ := H
  go_enter Try.func9, Try.ntmps9
  go_wp2_with (first | ((with_reducible refine gate_dst (N := 2) rfl ?_); refine box_event ?hg (N := 2) ?hd (cs := #[.int .i64 a0_0, .int .i64 a0_1]) (t := 26) ?hr ?_; (case hd => rfl); (case hg => rfl); (case hr => first | (go_simp; done) | (go_simp; rfl)); intro gb384 hg w6 hbox hb; have n0_ := bsx hb HB; have n1_ := Aside0.mk (hbox); have n2_ := gwx hg HB; have n3_ := n2_; clear HB; have HB := n0_; have BK384 := n1_; have GW384 := n2_; have GE384 := n3_; clear n0_ n1_ n2_ n3_; clear hb hbox hg; have hcz7_0 := cz0 BK384; have hcz7_1 := cz1 BK384; have hfz7_0 := blk_frozen BK384.out 0; have hfz7_1 := blk_frozen BK384.out 1) | ((with_reducible refine gate_callee (f := 25) rfl ?_); refine goesL_ (some 7) rfl rfl Try.func25 (by kernel_rfl) rfl #[.agg #[.int .i64 a0_0, .int .i64 a0_1]] rfl (by (try simp only [m_1, m_2, m_3]); first | done | rfl | (simp only [m_4, m_5]; rfl)) ?_; (with_reducible refine (spec_riGood.calls k a0_0 a0_1 true _ A3.out).mono ?_); rintro e w8 ⟨rfl, hb⟩; refine ⟨_, rfl, ?_⟩; replace BK384 := bbx hb BK384; replace HB := bsx hb HB; skip; (try clear hb); (try clear hb2); (try clear hk); (try clear hi); have hcz9_0 := cz0 BK384; have hcz9_1 := cz1 BK384; have hfz9_0 := blk_frozen BK384.out 0; have hfz9_1 := blk_frozen BK384.out 1) | ((with_reducible refine gate_callee (f := 34) rfl ?_); refine goesL_ (some 11) rfl rfl Try.func34 (by kernel_rfl) rfl #[.agg #[.int .i64 a0_0, .int .i64 a0_1], .string a1] rfl (by (try simp only [m_1, m_2, m_3]); first | done | rfl | (simp only [m_4, m_5]; rfl)) ?_; (with_reducible refine (spec_riRing.calls k a0_0 a0_1 a1 t386 _ A5.out).mono ?_); rintro e w10 ⟨rfl, hb⟩; refine ⟨_, rfl, ?_⟩; replace BK384 := bbx hb BK384; replace HB := bsx hb HB; skip; (try clear hb); (try clear hb2); (try clear hk); (try clear hi)))
  go_ret2
  exact ⟨by first | rfl | (simp [errW_none, errW_some] <;> rfl) | (simp [*, errW_none, errW_some] <;> rfl), bB HB⟩
/-! ### impl_CodesOfRing: function 10 -/
def impl_CodesOfRing.f (k : Nat) (a0_0 : Int) (a0_1 : Int) (a1 : ByteArray) : Option (List ByteArray × Bool) := (impl_isRing.f k a0_0 a0_1 a1).bind fun t388 => (if t388 = true then ((impl_Lock_rounded.f k a0_0 a0_1 a1).bind fun t389 => (some (t389, true))) else (some (([] : List ByteArray), false)))
theorem impl_CodesOfRing.mono : ∀ a0 a1 a2 k, LeO (impl_CodesOfRing.f k a0 a1 a2) (impl_CodesOfRing.f (k + 1) a0 a1 a2) := by
  intro a0 a1 a2 k
  unfold impl_CodesOfRing.f
  repeat' first
      | (with_reducible exact impl_Lock_rounded.mono _ _ _ _)
      | (with_reducible exact impl_isRing.mono _ _ _ _)
      | (with_reducible exact LeO.refl _)
      | (with_reducible exact LeO.none _)
      | (with_reducible refine LeO.ite ?_ ?_)
      | (with_reducible refine LeO.bind ?_ (fun _ => ?_))
      | exact impl_Lock_rounded.mono _ _ _ _
      | exact impl_isRing.mono _ _ _ _
      | exact LeO.none _
      | refine LeO.ite ?_ ?_
      | refine LeO.bind ?_ (fun _ => ?_)
set_option maxHeartbeats 8000000 in
set_option maxRecDepth 100000 in
theorem impl_CodesOfRing.calls (k : Nat) (a0_0 : Int) (a0_1 : Int) (a1 : ByteArray) (r1 : List ByteArray) (r2 : Bool) (w : World) (h : impl_CodesOfRing.f k a0_0 a0_1 a1 = some (r1, r2)) :
    Calls Try.prog 10 #[.agg #[.int .i64 a0_0, .int .i64 a0_1], .string a1] w fun e w' => ∃ v0_ : Value, e = .returned (.tuple #[v0_, .bool r2]) ∧ Kd.R Kd.string 9 w' w.heap.size (fun _ => True) v0_ r1 ∧ Below w.heap.size w w' := by
  have hu26 := Try.underlying26
  have HB := Aside0.mk (Below.refl w.heap.size w)
  have H : ((impl_isRing.f k a0_0 a0_1 a1).bind fun t388 => (if t388 = true then ((impl_Lock_rounded.f k a0_0 a0_1 a1).bind fun t389 => (some (t389, true))) else (some (([] : List ByteArray), false)))) = some (r1, r2) := h
  clear h
  replace H := Option.bind_eq_some_iff.mp H
  obtain ⟨t388, A30, H⟩ := H
  try dsimp only at H
  have A3 := Aside0.mk A30
  clear A30
  by_cases c4 : t388 = true
  rotate_left
  · replace c4 := Bool.eq_false_iff.mpr c4
    subst c4
    rw [if_neg (show ¬ (false = true) by decide)] at H
    simp only [Option.some.injEq, Prod.mk.injEq] at H
    obtain ⟨rfl, rfl⟩ := H
    go_enter Try.func10, Try.ntmps10
    go_wp2_with (first | ((with_reducible refine gate_dst (N := 2) rfl ?_); refine box_event ?hg (N := 2) ?hd (cs := #[.int .i64 a0_0, .int .i64 a0_1]) (t := 26) ?hr ?_; (case hd => rfl); (case hg => rfl); (case hr => first | (go_simp; done) | (go_simp; rfl)); intro gb387 hg w11 hbox hb; have n0_ := bsx hb HB; have n1_ := Aside0.mk (hbox); have n2_ := gwx hg HB; have n3_ := n2_; clear HB; have HB := n0_; have BK387 := n1_; have GW387 := n2_; have GE387 := n3_; clear n0_ n1_ n2_ n3_; clear hb hbox hg; have hcz12_0 := cz0 BK387; have hcz12_1 := cz1 BK387; have hfz12_0 := blk_frozen BK387.out 0; have hfz12_1 := blk_frozen BK387.out 1) | ((with_reducible refine gate_callee (f := 33) rfl ?_); refine goesL_ (some 8) rfl rfl Try.func33 (by kernel_rfl) rfl #[.agg #[.int .i64 a0_0, .int .i64 a0_1], .string a1] rfl (by (try simp only [m_1, m_2, m_3]); first | done | rfl | (simp only [m_4, m_5]; rfl)) ?_; (with_reducible refine (impl_isRing.calls k a0_0 a0_1 a1 false _ A3.out).mono ?_); rintro e w13 ⟨rfl, hb⟩; refine ⟨_, rfl, ?_⟩; replace BK387 := bbx hb BK387; replace HB := bsx hb HB; skip; (try clear hb); (try clear hb2); (try clear hk); (try clear hi)))
    go_ret2
    exact ⟨_, by first | rfl | (simp [errW_none, errW_some] <;> rfl) | (simp [*, errW_none, errW_some] <;> rfl), by first | exact Kd.R_nil _ _ _ _ _ | exact Kd.N_nil _ _ _ _ _ | exact Kd.V_nil _ _ _ _ _ | exact Kd.Q_nil _ _ _ _ _ | exact Kd.S_nil _ _ _ _ _, bB HB⟩

  subst c4
  rw [if_pos rfl] at H
  replace H := Option.bind_eq_some_iff.mp H
  obtain ⟨t389, A50, H⟩ := H
  try dsimp only at H
  have A5 := Aside0.mk A50
  clear A50
  simp only [Option.some.injEq, Prod.mk.injEq] at H
  obtain ⟨rfl, rfl⟩ := H
  go_enter Try.func10, Try.ntmps10
  go_wp2_with (first | ((with_reducible refine gate_dst (N := 2) rfl ?_); refine box_event ?hg (N := 2) ?hd (cs := #[.int .i64 a0_0, .int .i64 a0_1]) (t := 26) ?hr ?_; (case hd => rfl); (case hg => rfl); (case hr => first | (go_simp; done) | (go_simp; rfl)); intro gb387 hg w6 hbox hb; have n0_ := bsx hb HB; have n1_ := Aside0.mk (hbox); have n2_ := gwx hg HB; have n3_ := n2_; clear HB; have HB := n0_; have BK387 := n1_; have GW387 := n2_; have GE387 := n3_; clear n0_ n1_ n2_ n3_; clear hb hbox hg; have hcz7_0 := cz0 BK387; have hcz7_1 := cz1 BK387; have hfz7_0 := blk_frozen BK387.out 0; have hfz7_1 := blk_frozen BK387.out 1) | ((with_reducible refine gate_callee (f := 33) rfl ?_); refine goesL_ (some 8) rfl rfl Try.func33 (by kernel_rfl) rfl #[.agg #[.int .i64 a0_0, .int .i64 a0_1], .string a1] rfl (by (try simp only [m_1, m_2, m_3]); first | done | rfl | (simp only [m_4, m_5]; rfl)) ?_; (with_reducible refine (impl_isRing.calls k a0_0 a0_1 a1 true _ A3.out).mono ?_); rintro e w8 ⟨rfl, hb⟩; refine ⟨_, rfl, ?_⟩; replace BK387 := bbx hb BK387; replace HB := bsx hb HB; skip; (try clear hb); (try clear hb2); (try clear hk); (try clear hi); have hcz9_0 := cz0 BK387; have hcz9_1 := cz1 BK387; have hfz9_0 := blk_frozen BK387.out 0; have hfz9_1 := blk_frozen BK387.out 1) | ((with_reducible refine gate_callee (f := 35) rfl ?_); refine goesL_ (some 12) rfl rfl Try.func35 (by kernel_rfl) rfl #[.agg #[.int .i64 a0_0, .int .i64 a0_1], .string a1] rfl (by (try simp only [m_1, m_2, m_3]); first | done | rfl | (simp only [m_4, m_5]; rfl)) ?_; (with_reducible refine (impl_Lock_rounded.calls k a0_0 a0_1 a1 t389 _ A5.out).mono ?_); rintro e w10 ⟨v390, rfl, ho0, hb⟩; refine ⟨_, rfl, ?_⟩; have n0_ := Aside0.mk (Kd.R_lower ho0 (below_size (bB HB))); replace BK387 := bbx hb BK387; have n2_ := bsx hb HB; clear HB; have HO391 := n0_; have HB := n2_; clear n0_ n2_; (try clear hb); (try clear hb2); (try clear hk); (try clear hi); (try clear ho0)))
  go_ret2
  exact ⟨_, by first | rfl | (simp [errW_none, errW_some] <;> rfl) | (simp [*, errW_none, errW_some] <;> rfl), by (with_reducible repeat (first | apply r_a | apply r_d | apply r_e)); exact HO391.out, bB HB⟩
/-! ### spec_CodesOfRing: function 11 -/
def spec_CodesOfRing.f (k : Nat) (a0_0 : Int) (a0_1 : Int) (a1 : ByteArray) : Option (List ByteArray × Bool) := (spec_riGood.f k a0_0 a0_1).bind fun t393 => (if t393 = true then ((spec_riRing.f k a0_0 a0_1 a1).bind fun t394 => (if t394 = true then ((spec_riCodes.f k a0_0 a0_1 a1 true).bind fun t395 => (some (t395, true))) else (some (([] : List ByteArray), false)))) else (some (([] : List ByteArray), false)))
theorem spec_CodesOfRing.mono : ∀ a0 a1 a2 k, LeO (spec_CodesOfRing.f k a0 a1 a2) (spec_CodesOfRing.f (k + 1) a0 a1 a2) := by
  intro a0 a1 a2 k
  unfold spec_CodesOfRing.f
  repeat' first
      | (with_reducible exact spec_riCodes.mono _ _ _ _ _)
      | (with_reducible exact spec_riGood.mono _ _ _)
      | (with_reducible exact spec_riRing.mono _ _ _ _)
      | (with_reducible exact LeO.refl _)
      | (with_reducible exact LeO.none _)
      | (with_reducible refine LeO.ite ?_ ?_)
      | (with_reducible refine LeO.bind ?_ (fun _ => ?_))
      | exact spec_riCodes.mono _ _ _ _ _
      | exact spec_riGood.mono _ _ _
      | exact spec_riRing.mono _ _ _ _
      | exact LeO.none _
      | refine LeO.ite ?_ ?_
      | refine LeO.bind ?_ (fun _ => ?_)
set_option maxHeartbeats 8000000 in
set_option maxRecDepth 100000 in
theorem spec_CodesOfRing.calls (k : Nat) (a0_0 : Int) (a0_1 : Int) (a1 : ByteArray) (r1 : List ByteArray) (r2 : Bool) (w : World) (h : spec_CodesOfRing.f k a0_0 a0_1 a1 = some (r1, r2)) :
    Calls Try.prog 11 #[.agg #[.int .i64 a0_0, .int .i64 a0_1], .string a1] w fun e w' => ∃ v0_ : Value, e = .returned (.tuple #[v0_, .bool r2]) ∧ Kd.R Kd.string 9 w' w.heap.size (fun _ => True) v0_ r1 ∧ Below w.heap.size w w' := by
  have hu26 := Try.underlying26
  have HB := Aside0.mk (Below.refl w.heap.size w)
  have H : ((spec_riGood.f k a0_0 a0_1).bind fun t393 => (if t393 = true then ((spec_riRing.f k a0_0 a0_1 a1).bind fun t394 => (if t394 = true then ((spec_riCodes.f k a0_0 a0_1 a1 true).bind fun t395 => (some (t395, true))) else (some (([] : List ByteArray), false)))) else (some (([] : List ByteArray), false)))) = some (r1, r2) := h
  clear h
  replace H := Option.bind_eq_some_iff.mp H
  obtain ⟨t393, A30, H⟩ := H
  try dsimp only at H
  have A3 := Aside0.mk A30
  clear A30
  by_cases c4 : t393 = true
  rotate_left
  · replace c4 := Bool.eq_false_iff.mpr c4
    subst c4
    rw [if_neg (show ¬ (false = true) by decide)] at H
    simp only [Option.some.injEq, Prod.mk.injEq] at H
    obtain ⟨rfl, rfl⟩ := H
    go_enter Try.func11, Try.ntmps11
    go_wp2_with (first | ((with_reducible refine gate_dst (N := 2) rfl ?_); refine box_event ?hg (N := 2) ?hd (cs := #[.int .i64 a0_0, .int .i64 a0_1]) (t := 26) ?hr ?_; (case hd => rfl); (case hg => rfl); (case hr => first | (go_simp; done) | (go_simp; rfl)); intro gb392 hg w20 hbox hb; have n0_ := bsx hb HB; have n1_ := Aside0.mk (hbox); have n2_ := gwx hg HB; have n3_ := n2_; clear HB; have HB := n0_; have BK392 := n1_; have GW392 := n2_; have GE392 := n3_; clear n0_ n1_ n2_ n3_; clear hb hbox hg; have hcz21_0 := cz0 BK392; have hcz21_1 := cz1 BK392; have hfz21_0 := blk_frozen BK392.out 0; have hfz21_1 := blk_frozen BK392.out 1) | ((with_reducible refine gate_callee (f := 25) rfl ?_); refine goesL_ (some 7) rfl rfl Try.func25 (by kernel_rfl) rfl #[.agg #[.int .i64 a0_0, .int .i64 a0_1]] rfl (by (try simp only [m_1, m_2, m_3]); first | done | rfl | (simp only [m_4, m_5]; rfl)) ?_; (with_reducible refine (spec_riGood.calls k a0_0 a0_1 false _ A3.out).mono ?_); rintro e w22 ⟨rfl, hb⟩; refine ⟨_, rfl, ?_⟩; replace BK392 := bbx hb BK392; replace HB := bsx hb HB; skip; (try clear hb); (try clear hb2); (try clear hk); (try clear hi)))
    go_ret2
    exact ⟨_, by first | rfl | (simp [errW_none, errW_some] <;> rfl) | (simp [*, errW_none, errW_some] <;> rfl), by first | exact Kd.R_nil _ _ _ _ _ | exact Kd.N_nil _ _ _ _ _ | exact Kd.V_nil _ _ _ _ _ | exact Kd.Q_nil _ _ _ _ _ | exact Kd.S_nil _ _ _ _ _, bB HB⟩

  subst c4
  rw [if_pos rfl] at H
  replace H := Option.bind_eq_some_iff.mp H
  obtain ⟨t394, A50, H⟩ := H
  try dsimp only at H
  have A5 := Aside0.mk A50
  clear A50
  by_cases c6 : t394 = true
  rotate_left
  · replace c6 := Bool.eq_false_iff.mpr c6
    subst c6
    rw [if_neg (show ¬ (false = true) by decide)] at H
    simp only [Option.some.injEq, Prod.mk.injEq] at H
    obtain ⟨rfl, rfl⟩ := H
    go_enter Try.func11, Try.ntmps11
    go_wp2_with (first | ((with_reducible refine gate_dst (N := 2) rfl ?_); refine box_event ?hg (N := 2) ?hd (cs := #[.int .i64 a0_0, .int .i64 a0_1]) (t := 26) ?hr ?_; (case hd => rfl); (case hg => rfl); (case hr => first | (go_simp; done) | (go_simp; rfl)); intro gb392 hg w15 hbox hb; have n0_ := bsx hb HB; have n1_ := Aside0.mk (hbox); have n2_ := gwx hg HB; have n3_ := n2_; clear HB; have HB := n0_; have BK392 := n1_; have GW392 := n2_; have GE392 := n3_; clear n0_ n1_ n2_ n3_; clear hb hbox hg; have hcz16_0 := cz0 BK392; have hcz16_1 := cz1 BK392; have hfz16_0 := blk_frozen BK392.out 0; have hfz16_1 := blk_frozen BK392.out 1) | ((with_reducible refine gate_callee (f := 25) rfl ?_); refine goesL_ (some 7) rfl rfl Try.func25 (by kernel_rfl) rfl #[.agg #[.int .i64 a0_0, .int .i64 a0_1]] rfl (by (try simp only [m_1, m_2, m_3]); first | done | rfl | (simp only [m_4, m_5]; rfl)) ?_; (with_reducible refine (spec_riGood.calls k a0_0 a0_1 true _ A3.out).mono ?_); rintro e w17 ⟨rfl, hb⟩; refine ⟨_, rfl, ?_⟩; replace BK392 := bbx hb BK392; replace HB := bsx hb HB; skip; (try clear hb); (try clear hb2); (try clear hk); (try clear hi); have hcz18_0 := cz0 BK392; have hcz18_1 := cz1 BK392; have hfz18_0 := blk_frozen BK392.out 0; have hfz18_1 := blk_frozen BK392.out 1) | (go_at_call 34; (with_reducible refine (spec_riRing.calls k a0_0 a0_1 a1 false _ A5.out).mono ?_); rintro e w19 ⟨rfl, hb⟩; replace BK392 := bbx hb BK392; replace HB := bsx hb HB; skip; (try clear hb); (try clear hb2); (try clear hk); (try clear hi)))
    go_ret2
    exact ⟨_, by first | rfl | (simp [errW_none, errW_some] <;> rfl) | (simp [*, errW_none, errW_some] <;> rfl), by first | exact Kd.R_nil _ _ _ _ _ | exact Kd.N_nil _ _ _ _ _ | exact Kd.V_nil _ _ _ _ _ | exact Kd.Q_nil _ _ _ _ _ | exact Kd.S_nil _ _ _ _ _, bB HB⟩
  subst c6
  rw [if_pos rfl] at H
  replace H := Option.bind_eq_some_iff.mp H
  obtain ⟨t395, A70, H⟩ := H
  try dsimp only at H
  have A7 := Aside0.mk A70
  clear A70
  simp only [Option.some.injEq, Prod.mk.injEq] at H
  obtain ⟨rfl, rfl⟩ := H
  go_enter Try.func11, Try.ntmps11
  go_wp2_with (first | ((with_reducible refine gate_dst (N := 2) rfl ?_); refine box_event ?hg (N := 2) ?hd (cs := #[.int .i64 a0_0, .int .i64 a0_1]) (t := 26) ?hr ?_; (case hd => rfl); (case hg => rfl); (case hr => first | (go_simp; done) | (go_simp; rfl)); intro gb392 hg w8 hbox hb; have n0_ := bsx hb HB; have n1_ := Aside0.mk (hbox); have n2_ := gwx hg HB; have n3_ := n2_; clear HB; have HB := n0_; have BK392 := n1_; have GW392 := n2_; have GE392 := n3_; clear n0_ n1_ n2_ n3_; clear hb hbox hg; have hcz9_0 := cz0 BK392; have hcz9_1 := cz1 BK392; have hfz9_0 := blk_frozen BK392.out 0; have hfz9_1 := blk_frozen BK392.out 1) | ((with_reducible refine gate_callee (f := 25) rfl ?_); refine goesL_ (some 7) rfl rfl Try.func25 (by kernel_rfl) rfl #[.agg #[.int .i64 a0_0, .int .i64 a0_1]] rfl (by (try simp only [m_1, m_2, m_3]); first | done | rfl | (simp only [m_4, m_5]; rfl)) ?_; (with_reducible refine (spec_riGood.calls k a0_0 a0_1 true _ A3.out).mono ?_); rintro e w10 ⟨rfl, hb⟩; refine ⟨_, rfl, ?_⟩; replace BK392 := bbx hb BK392; replace HB := bsx hb HB; skip; (try clear hb); (try clear hb2); (try clear hk); (try clear hi); have hcz11_0 := cz0 BK392; have hcz11_1 := cz1 BK392; have hfz11_0 := blk_frozen BK392.out 0; have hfz11_1 := blk_frozen BK392.out 1) | (go_at_call 34; (with_reducible refine (spec_riRing.calls k a0_0 a0_1 a1 true _ A5.out).mono ?_); rintro e w12 ⟨rfl, hb⟩; replace BK392 := bbx hb BK392; replace HB := bsx hb HB; skip; (try clear hb); (try clear hb2); (try clear hk); (try clear hi); have hcz13_0 := cz0 BK392; have hcz13_1 := cz1 BK392; have hfz13_0 := blk_frozen BK392.out 0; have hfz13_1 := blk_frozen BK392.out 1) | ((with_reducible refine gate_callee (f := 27) rfl ?_); refine goesL_ (some 17) rfl rfl Try.func27 (by kernel_rfl) rfl #[.agg #[.int .i64 a0_0, .int .i64 a0_1], .string a1, .bool true] rfl (by (try simp only [m_1, m_2, m_3]); first | done | rfl | (simp only [m_4, m_5]; rfl)) ?_; (with_reducible refine (spec_riCodes.calls k a0_0 a0_1 a1 true t395 _ A7.out).mono ?_); rintro e w14 ⟨v396, rfl, ho0, hb⟩; refine ⟨_, rfl, ?_⟩; have n0_ := Aside0.mk (Kd.R_lower ho0 (below_size (bB HB))); replace BK392 := bbx hb BK392; have n2_ := bsx hb HB; clear HB; have HO397 := n0_; have HB := n2_; clear n0_ n2_; (try clear hb); (try clear hb2); (try clear hk); (try clear hi); (try clear ho0)))
  go_ret2
  exact ⟨_, by first | rfl | (simp [errW_none, errW_some] <;> rfl) | (simp [*, errW_none, errW_some] <;> rfl), by (with_reducible repeat (first | apply r_a | apply r_d | apply r_e)); exact HO397.out, bB HB⟩
/-! ### impl_BackRing: function 12 -/
def impl_BackRing.l0 : Nat → ByteArray → ByteArray → Int → Int → Option (ByteArray × Bool)
  | 0, _, _, _, _ => none
  | k + 1, x1, x6, x13, x14 => if x14 < x13 then (if 0 ≤ x14 then (if x14 ≤ (wrap64 (x14 + 1)) then (if (wrap64 (x14 + 1)) ≤ (x1.size : Int) then (if (x1.extract (x14 : Int).toNat ((wrap64 (x14 + 1)) : Int).toNat).size + x6.size ≤ 9223372036854775807 then (impl_BackRing.l0 k x1 ((x1.extract (x14 : Int).toNat ((wrap64 (x14 + 1)) : Int).toNat) ++ x6) x13 (wrap64 (x14 + 1))) else (none)) else (none)) else (none)) else (none)) else (some (x6, true))
def impl_BackRing.f (k : Nat) (a0_0 : Int) (a0_1 : Int) (a1 : ByteArray) : Option (ByteArray × Bool) := (impl_isRing.f k a0_0 a0_1 a1).bind fun t399 => (if t399 = true then (impl_BackRing.l0 k a1 (⟨#[]⟩ : ByteArray) (a1.size : Int) 0) else (some ((⟨#[]⟩ : ByteArray), false)))
theorem impl_BackRing.mono_l : ∀ k, (∀ y0 y1 y2 y3, LeO (impl_BackRing.l0 k y0 y1 y2 y3) (impl_BackRing.l0 (k + 1) y0 y1 y2 y3))
  | 0 => fun _ _ _ _ r h => by simp [impl_BackRing.l0] at h
  | k + 1 => by
    have ih0 := impl_BackRing.mono_l k
    · intro y0 y1 y2 y3
      unfold impl_BackRing.l0
      repeat' first
      | (with_reducible exact ih0 _ _ _ _)
      | (with_reducible exact impl_isRing.mono _ _ _ _)
      | (with_reducible exact LeO.refl _)
      | (with_reducible exact LeO.none _)
      | (with_reducible refine LeO.ite ?_ ?_)
      | (with_reducible refine LeO.bind ?_ (fun _ => ?_))
      | exact ih0 _ _ _ _
      | exact impl_isRing.mono _ _ _ _
      | exact LeO.none _
      | refine LeO.ite ?_ ?_
      | refine LeO.bind ?_ (fun _ => ?_)
theorem impl_BackRing.mono : ∀ a0 a1 a2 k, LeO (impl_BackRing.f k a0 a1 a2) (impl_BackRing.f (k + 1) a0 a1 a2) := by
  intro a0 a1 a2 k
  have ih0 := impl_BackRing.mono_l k
  unfold impl_BackRing.f
  repeat' first
      | (with_reducible exact ih0 _ _ _ _)
      | (with_reducible exact impl_isRing.mono _ _ _ _)
      | (with_reducible exact LeO.refl _)
      | (with_reducible exact LeO.none _)
      | (with_reducible refine LeO.ite ?_ ?_)
      | (with_reducible refine LeO.bind ?_ (fun _ => ?_))
      | exact ih0 _ _ _ _
      | exact impl_isRing.mono _ _ _ _
      | exact LeO.none _
      | refine LeO.ite ?_ ?_
      | refine LeO.bind ?_ (fun _ => ?_)
set_option maxHeartbeats 8000000 in
set_option maxRecDepth 100000 in
theorem impl_BackRing.calls (k : Nat) (a0_0 : Int) (a0_1 : Int) (a1 : ByteArray) (r1 : ByteArray) (r2 : Bool) (w : World) (h : impl_BackRing.f k a0_0 a0_1 a1 = some (r1, r2)) :
    Calls Try.prog 12 #[.agg #[.int .i64 a0_0, .int .i64 a0_1], .string a1] w fun e w' => e = .returned (.tuple #[.string r1, .bool r2]) ∧ Below w.heap.size w w' := by
  have hu26 := Try.underlying26
  have HB := Aside0.mk (Below.refl w.heap.size w)
  have H : ((impl_isRing.f k a0_0 a0_1 a1).bind fun t399 => (if t399 = true then (impl_BackRing.l0 k a1 (⟨#[]⟩ : ByteArray) (a1.size : Int) 0) else (some ((⟨#[]⟩ : ByteArray), false)))) = some (r1, r2) := h
  clear h
  replace H := Option.bind_eq_some_iff.mp H
  obtain ⟨t399, A30, H⟩ := H
  try dsimp only at H
  have A3 := Aside0.mk A30
  clear A30
  by_cases c4 : t399 = true
  rotate_left
  · replace c4 := Bool.eq_false_iff.mpr c4
    subst c4
    rw [if_neg (show ¬ (false = true) by decide)] at H
    simp only [Option.some.injEq, Prod.mk.injEq] at H
    obtain ⟨rfl, rfl⟩ := H
    go_enter Try.func12, Try.ntmps12
    go_wp2_with (first | ((with_reducible refine gate_dst (N := 2) rfl ?_); refine box_event ?hg (N := 2) ?hd (cs := #[.int .i64 a0_0, .int .i64 a0_1]) (t := 26) ?hr ?_; (case hd => rfl); (case hg => rfl); (case hr => first | (go_simp; done) | (go_simp; rfl)); intro gb398 hg w13 hbox hb; have n0_ := bsx hb HB; have n1_ := Aside0.mk (hbox); have n2_ := gwx hg HB; have n3_ := n2_; clear HB; have HB := n0_; have BK398 := n1_; have GW398 := n2_; have GE398 := n3_; clear n0_ n1_ n2_ n3_; clear hb hbox hg; have hcz14_0 := cz0 BK398; have hcz14_1 := cz1 BK398; have hfz14_0 := blk_frozen BK398.out 0; have hfz14_1 := blk_frozen BK398.out 1) | ((with_reducible refine gate_callee (f := 33) rfl ?_); refine goesL_ (some 10) rfl rfl Try.func33 (by kernel_rfl) rfl #[.agg #[.int .i64 a0_0, .int .i64 a0_1], .string a1] rfl (by (try simp only [m_1, m_2, m_3]); first | done | rfl | (simp only [m_4, m_5]; rfl)) ?_; (with_reducible refine (impl_isRing.calls k a0_0 a0_1 a1 false _ A3.out).mono ?_); rintro e w15 ⟨rfl, hb⟩; refine ⟨_, rfl, ?_⟩; replace BK398 := bbx hb BK398; replace HB := bsx hb HB; skip; (try clear hb); (try clear hb2); (try clear hk); (try clear hi)))
    go_ret2
    exact ⟨by first | rfl | (simp [errW_none, errW_some] <;> rfl) | (simp [*, errW_none, errW_some] <;> rfl), bB HB⟩

  subst c4
  rw [if_pos rfl] at H
  have H' := Aside0.mk H
  clear H
  go_enter Try.func12, Try.ntmps12
  go_wp2_with (first | ((with_reducible refine gate_dst (N := 2) rfl ?_); refine box_event ?hg (N := 2) ?hd (cs := #[.int .i64 a0_0, .int .i64 a0_1]) (t := 26) ?hr ?_; (case hd => rfl); (case hg => rfl); (case hr => first | (go_simp; done) | (go_simp; rfl)); intro gb398 hg w5 hbox hb; have n0_ := bsx hb HB; have n1_ := Aside0.mk (hbox); have n2_ := gwx hg HB; have n3_ := n2_; clear HB; have HB := n0_; have BK398 := n1_; have GW398 := n2_; have GE398 := n3_; clear n0_ n1_ n2_ n3_; clear hb hbox hg; have hcz6_0 := cz0 BK398; have hcz6_1 := cz1 BK398; have hfz6_0 := blk_frozen BK398.out 0; have hfz6_1 := blk_frozen BK398.out 1) | ((with_reducible refine gate_callee (f := 33) rfl ?_); refine goesL_ (some 10) rfl rfl Try.func33 (by kernel_rfl) rfl #[.agg #[.int .i64 a0_0, .int .i64 a0_1], .string a1] rfl (by (try simp only [m_1, m_2, m_3]); first | done | rfl | (simp only [m_4, m_5]; rfl)) ?_; (with_reducible refine (impl_isRing.calls k a0_0 a0_1 a1 true _ A3.out).mono ?_); rintro e w7 ⟨rfl, hb⟩; refine ⟨_, rfl, ?_⟩; replace BK398 := bbx hb BK398; replace HB := bsx hb HB; skip; (try clear hb); (try clear hb2); (try clear hk); (try clear hi)))
  go_loopg [6, 14] k (fun kq v6 v14 w' => ∃ (x6_1 : ByteArray) (x14_1 : Int), v6 = .string x6_1 ∧ v14 = .int .i64 x14_1 ∧ Aside0 (impl_BackRing.l0 kq a1 x6_1 (a1.size : Int) x14_1 = some (r1, r2)) ∧ Aside0 (kq ≤ k) ∧ Aside0 (w'.heap[gb398]? = some (.cells #[.int .i64 a0_0, .int .i64 a0_1] 26 (0, 0))) ∧ Aside0 (Below w.heap.size w w'))
  case atStart => exact ⟨((⟨#[]⟩ : ByteArray)), (0), (by first | rfl | (simp; done) | (simp [*]; done)), (by first | rfl | (simp; done) | (simp [*]; done)), H', ⟨Nat.le_refl _⟩, ⟨bK BK398⟩, ⟨bB HB⟩⟩
  clear H'
  try clear c4
  try clear hcz6_0
  try clear hcz6_1
  try clear hfz6_0
  try clear hfz6_1
  obtain ⟨x6_1, x14_1, rfl, rfl, HA, HK1, BK398, HB⟩ := hrel
  rcases gk with _ | k1
  · exact absurd HA.out (by simp [impl_BackRing.l0])
  have H := HA.out
  clear HA
  simp only [impl_BackRing.l0] at H
  by_cases c8 : x14_1 < (a1.size : Int)
  rotate_left
  · rw [if_neg c8] at H
    have c8b0 : decide (x14_1 < (a1.size : Int)) = false := decide_eq_false c8
    clear c8
    simp only [Option.some.injEq, Prod.mk.injEq] at H
    obtain ⟨rfl, rfl⟩ := H
    go_wp2
    go_ret2
    exact ⟨by first | rfl | (simp [errW_none, errW_some] <;> rfl) | (simp [*, errW_none, errW_some] <;> rfl), bB HB⟩
  rw [if_pos c8] at H
  have c8b0 : decide (x14_1 < (a1.size : Int)) = true := decide_eq_true c8
  clear c8
  by_cases c9 : 0 ≤ x14_1
  rotate_left
  · rw [if_neg c9] at H
    exact absurd H (by simp)
  rw [if_pos c9] at H
  have c9b0 := eq_true c9
  have c9b1 : decide (0 ≤ x14_1) = true := decide_eq_true c9
  clear c9
  by_cases c10 : x14_1 ≤ (wrap64 (x14_1 + 1))
  rotate_left
  · rw [if_neg c10] at H
    exact absurd H (by simp)
  rw [if_pos c10] at H
  have c10b0 := eq_true c10
  have c10b1 : decide (x14_1 ≤ (wrap64 (x14_1 + 1))) = true := decide_eq_true c10
  by_cases c11 : (wrap64 (x14_1 + 1)) ≤ (a1.size : Int)
  rotate_left
  · rw [if_neg c11] at H
    exact absurd H (by simp)
  rw [if_pos c11] at H
  have c11b0 := eq_true c11
  have c11b1 : decide ((wrap64 (x14_1 + 1)) ≤ (a1.size : Int)) = true := decide_eq_true c11
  by_cases c12 : (a1.extract (x14_1 : Int).toNat ((wrap64 (x14_1 + 1)) : Int).toNat).size + x6_1.size ≤ 9223372036854775807
  rotate_left
  · rw [if_neg c12] at H
    exact absurd H (by simp)
  rw [if_pos c12] at H
  have c12b0 := eq_true c12
  have c12b1 : decide ((a1.extract (x14_1 : Int).toNat ((wrap64 (x14_1 + 1)) : Int).toNat).size + x6_1.size ≤ 9223372036854775807) = true := decide_eq_true c12
  try have c12b2 : (9223372036854775807 < (a1.extract (x14_1 : Int).toNat ((wrap64 (x14_1 + 1)) : Int).toNat).size + x6_1.size) = False := eq_false (Nat.not_lt.2 c12)
  have H' := Aside0.mk H
  clear H
  go_wp2
  go_roundg k1
  case measure => have := HK1.out; omega
  case rel => exact ⟨((a1.extract (x14_1 : Int).toNat ((wrap64 (x14_1 + 1)) : Int).toNat) ++ x6_1), (wrap64 (x14_1 + 1)), (by first | rfl | (simp; done) | (simp [*]; done)), (by first | rfl | (simp; done) | (simp [*]; done)), H', ⟨by have := HK1.out; omega⟩, ⟨bK BK398⟩, ⟨bB HB⟩⟩
end Go.Proofs.Ytmpcefcgboljkaa.P
