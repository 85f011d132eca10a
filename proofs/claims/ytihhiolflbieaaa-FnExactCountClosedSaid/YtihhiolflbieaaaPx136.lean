-- Texts of this session's own program (wip/dr.py), which runs the kit's printer.
import Derived.Test.YtihhiolflbieaaaPx0
import Derived.Test.YtihhiolflbieaaaPx2
import Derived.Test.YtihhiolflbieaaaPx62
import Derived.Test.YtihhiolflbieaaaPx71
import Derived.Test.YtihhiolflbieaaaPx133
import Derived.Test.YtihhiolflbieaaaPx142
namespace Go.Proofs.Ytihhiolflbieaaa.P
open Go.RowKit Go.Proofs.YtihhiolflbieaaaW.PrintWords Go.Proofs.YtihhiolflbieaaaW.PrintLast Go.Proofs.YtihhiolflbieaaaW.PrintMore
attribute [local go_sem] max2_int min2_int max_two min_two max_three min_three max_four min_four   -- for this text's walks alone
set_option linter.unusedVariables false
set_option linter.unusedSimpArgs false

/-! ### spec_CountClosed: function 39 -/
def spec_CountClosed.f (k : Nat) (a0_0 : Int) (a0_1 : Int) : Option (Int × Bool) := (spec_orFew.f k a0_0 a0_1).bind fun t898 => (if t898 = true then ((spec_orZero.f k a0_0 a0_1).bind fun t899 => ((spec_orSearch.f k a0_0 a0_1 t899).bind fun bt902 => (some (bt902.2.2, true)))) else (some (0, false)))
theorem spec_CountClosed.mono : ∀ a0 a1 k, LeO (spec_CountClosed.f k a0 a1) (spec_CountClosed.f (k + 1) a0 a1) := by
  intro a0 a1 k
  unfold spec_CountClosed.f
  repeat' first
      | (with_reducible exact spec_orFew.mono _ _ _)
      | (with_reducible exact spec_orSearch.mono _ _ _ _)
      | (with_reducible exact spec_orZero.mono _ _ _)
      | (with_reducible exact LeO.refl _)
      | (with_reducible exact LeO.none _)
      | (with_reducible refine LeO.ite ?_ ?_)
      | (with_reducible refine LeO.bind ?_ (fun _ => ?_))
      | exact spec_orFew.mono _ _ _
      | exact spec_orSearch.mono _ _ _ _
      | exact spec_orZero.mono _ _ _
      | exact LeO.none _
      | refine LeO.ite ?_ ?_
      | refine LeO.bind ?_ (fun _ => ?_)
def spec_CountClosed.T3 : Bool × List (List Nat × List Nat) := (true, [([], []), ([], []), ([1], [1]), ([0, 2, 2], [0, 2]), ([3], [3]), ([4], [4]), ([4], [4]), ([4], [4]), ([5, 3, 0, 1, 2, 3, 4, 5], [5]), ([6, 8, 0, 1, 2, 3, 4, 5, 6, 8], [6]), ([7, 9, 0, 1, 2, 3, 4, 5, 6, 7, 8, 9], [7])])
def spec_CountClosed.B3 : List Nat := [0, 0, 2, 7, 15, 31, 31, 31, 63, 383, 1023]
theorem spec_CountClosed.tab3 : rtab .any (opsOf Try.f39 3) = spec_CountClosed.T3 := by kernel_rfl
theorem spec_CountClosed.bits3 : waitsOk spec_CountClosed.T3.2 spec_CountClosed.B3 = true := by kernel_rfl
set_option maxHeartbeats 8000000 in
set_option maxRecDepth 100000 in
theorem spec_CountClosed.calls (k : Nat) (a0_0 : Int) (a0_1 : Int) (r1 : Int) (r2 : Bool) (w : World) (h : spec_CountClosed.f k a0_0 a0_1 = some (r1, r2)) :
    Calls Try.prog 39 #[.agg #[.int .i64 a0_0, .int .i64 a0_1]] w fun e w' => e = .returned (.tuple #[.int .i64 r1, .bool r2]) ∧ Below w.heap.size w w' := by
  have hu28 := Try.underlying28
  have HB := Aside0.mk (Below.refl w.heap.size w)
  have H : ((spec_orFew.f k a0_0 a0_1).bind fun t898 => (if t898 = true then ((spec_orZero.f k a0_0 a0_1).bind fun t899 => ((spec_orSearch.f k a0_0 a0_1 t899).bind fun bt902 => (some (bt902.2.2, true)))) else (some (0, false)))) = some (r1, r2) := h
  clear h
  replace H := Option.bind_eq_some_iff.mp H
  obtain ⟨t898, A20, H⟩ := H
  try dsimp only at H
  have A2 := Aside0.mk A20
  clear A20
  by_cases c3 : t898 = true
  rotate_left
  · replace c3 := Bool.eq_false_iff.mpr c3
    subst c3
    rw [if_neg (show ¬ (false = true) by decide)] at H
    simp only [Option.some.injEq, Prod.mk.injEq] at H
    obtain ⟨rfl, rfl⟩ := H
    go_enter Try.func39, Try.ntmps39
    go_wp2_with (first | ((with_reducible refine gate_dst (N := 1) rfl ?_); refine box_event ?hg (N := 1) ?hd (cs := #[.int .i64 a0_0, .int .i64 a0_1]) (t := 28) ?hr ?_; (case hd => rfl); (case hg => rfl); (case hr => first | (go_simp; done) | (go_simp; rfl)); intro gb897 hg w13 hbox hb; have n0_ := bsx hb HB; have n1_ := Aside0.mk (hbox); have n2_ := gwx hg HB; have n3_ := n2_; clear HB; have HB := n0_; have BK897 := n1_; have GW897 := n2_; have GE897 := n3_; clear n0_ n1_ n2_ n3_; clear hb hbox hg; have hcz14_0 := cz0 BK897; have hcz14_1 := cz1 BK897; have hfz14_0 := blk_frozen BK897.out 0; have hfz14_1 := blk_frozen BK897.out 1) | ((with_reducible refine gate_callee (f := 79) rfl ?_); refine goesL_ (some 8) rfl rfl Try.func79 (by kernel_rfl) rfl #[.agg #[.int .i64 a0_0, .int .i64 a0_1]] rfl (by (try simp only [m_1, m_2, m_3]); first | done | rfl | (simp only [m_4, m_5]; rfl)) ?_; (with_reducible refine (spec_orFew.calls k a0_0 a0_1 false _ A2.out).mono ?_); rintro e w15 ⟨rfl, hb⟩; refine ⟨_, rfl, ?_⟩; replace BK897 := bbx hb BK897; replace HB := bsx hb HB; skip; (try clear hb); (try clear hb2); (try clear hk); (try clear hi)))
    go_ret2
    exact ⟨by first | rfl | (simp [errW_none, errW_some] <;> rfl) | (simp [*, errW_none, errW_some] <;> rfl), bB HB⟩

  subst c3
  rw [if_pos rfl] at H
  replace H := Option.bind_eq_some_iff.mp H
  obtain ⟨t899, A40, H⟩ := H
  try dsimp only at H
  have A4 := Aside0.mk A40
  clear A40
  replace H := Option.bind_eq_some_iff.mp H
  obtain ⟨⟨t902, t905, t906⟩, A50, H⟩ := H
  try dsimp only at H
  have A5 := Aside0.mk A50
  clear A50
  simp only [Option.some.injEq, Prod.mk.injEq] at H
  obtain ⟨rfl, rfl⟩ := H
  go_enter Try.func39, Try.ntmps39
  try go_wp2_with (first | ((with_reducible refine gate_dst (N := 1) rfl ?_); refine box_event ?hg (N := 1) ?hd (cs := #[.int .i64 a0_0, .int .i64 a0_1]) (t := 28) ?hr ?_; (case hd => rfl); (case hg => rfl); (case hr => first | (go_simp; done) | (go_simp; rfl)); intro gb897 hg w6 hbox hb; have n0_ := bsx hb HB; have n1_ := Aside0.mk (hbox); have n2_ := gwx hg HB; have n3_ := n2_; clear HB; have HB := n0_; have BK897 := n1_; have GW897 := n2_; have GE897 := n3_; clear n0_ n1_ n2_ n3_; clear hb hbox hg; have hcz7_0 := cz0 BK897; have hcz7_1 := cz1 BK897; have hfz7_0 := blk_frozen BK897.out 0; have hfz7_1 := blk_frozen BK897.out 1) | ((with_reducible refine gate_callee (f := 79) rfl ?_); refine goesL_ (some 8) rfl rfl Try.func79 (by kernel_rfl) rfl #[.agg #[.int .i64 a0_0, .int .i64 a0_1]] rfl (by (try simp only [m_1, m_2, m_3]); first | done | rfl | (simp only [m_4, m_5]; rfl)) ?_; (with_reducible refine (spec_orFew.calls k a0_0 a0_1 true _ A2.out).mono ?_); rintro e w8 ⟨rfl, hb⟩; refine ⟨_, rfl, ?_⟩; replace BK897 := bbx hb BK897; replace HB := bsx hb HB; skip; (try clear hb); (try clear hb2); (try clear hk); (try clear hi)))
  have n0_ := Aside0.mk (g_e BK897.out)
  have n1_ := Aside0.mk (b_e HB.out)
  clear BK897
  clear HB
  have BK897 := n0_
  have HB := n1_
  clear n0_ n1_
  refine start_ (n := 11) (S := fun w' => w'.cell? ⟨gb897, 0, none⟩ = some (.int .i64 a0_0) ∧ w'.cell? ⟨gb897, 1, none⟩ = some (.int .i64 a0_1)) (ds := []) (bs_ 11 0) (by kernel_rfl) rfl rfl ⟨(blk_cell BK897.out 0).trans rfl, (blk_cell BK897.out 1).trans rfl⟩ (fun hHeld => ?_); refine with_tabW spec_CountClosed.tab3 spec_CountClosed.bits3 (fun HT_ HW_ => ?_)
  generalize w8.drew = w9 at BK897 HB hHeld ⊢
  refine tk_ 0 11 (bs_ 11 1) rfl rfl HT_ HW_ (by kernel_rfl) (fun _ _ _ h => h) (by rfl) hHeld (by rintro w' ⟨s0, s1⟩; go_simp; with_reducible rfl) (by simp only [Act.put, s_1, s_2, s_3, i64_w, i32_w]; rfl) ?_
  refine tk_ 1 12 (bs_ 11 3) rfl rfl HT_ HW_ (by kernel_rfl) (fun _ _ _ h => h) (by rfl) hHeld (by rintro w' ⟨s0, s1⟩; go_simp; with_reducible rfl) (by simp only [Act.put, s_1, s_2, s_3, i64_w, i32_w]; rfl) ?_
  refine one_ (i := 2) (N := some 13) (bs_ 11 7) rfl rfl (one_of HT_.out (by kernel_rfl)) (by decide) (fun K hK => ?_)
  refine goes_ Try.func81 (by kernel_rfl) rfl #[.agg #[.int .i64 a0_0, .int .i64 a0_1]] (by rfl) rfl rfl (by (try simp only [m_1, m_2, m_3]); first | done | rfl | (simp only [m_4, m_5]; rfl)) ?_
  with_reducible refine (spec_orZero.calls k a0_0 a0_1 t899 _ A4.out).mono ?_
  rintro e w10 ⟨v900, rfl, ho0, hb⟩
  refine ⟨_, rfl, ?_⟩
  have n0_ := Aside0.mk (Kd.R_lower ho0 (below_size (bB HB)))
  have n1_ := bbx hb BK897
  have n2_ := bsx hb HB
  clear BK897
  clear HB
  have HO901 := n0_
  have BK897 := n1_
  have HB := n2_
  clear n0_ n1_ n2_
  (try clear hb)
  (try clear hb2)
  (try clear hk)
  (try clear hi)
  (try clear ho0)
  obtain ⟨Ao11, co11, eo11⟩ := Kd.R_slice HO901.out
  (first | subst eo11 | (injection eo11 with f1_ f2_ f3_; have f4_ := f1_.symm; have f5_ := f3_.symm; clear f1_ f2_ f3_; subst f4_; subst f5_))
  refine hK.out _ _ ⟨(blk_cell BK897.out 0).trans rfl, (blk_cell BK897.out 1).trans rfl⟩ (fun hHeld => ?_)
  clear hK K
  refine norm_ (a' := ?_) ?_ ?_
  rotate_left
  · show Act.put _ (some 13) _ = _
    simp only [Act.put, s_1, s_2, s_3, i64_w, i32_w]
    rfl
  refine one_ (i := 3) (N := some 14) (bs_ 11 15) rfl rfl (one_of HT_.out (by kernel_rfl)) (by decide) (fun K hK => ?_)
  refine goes_ Try.func80 (by kernel_rfl) rfl #[.agg #[.int .i64 a0_0, .int .i64 a0_1], .slice Ao11 t899.length co11] (by rfl) rfl rfl (by (try simp only [m_1, m_2, m_3]); first | done | rfl | (simp only [m_4, m_5]; rfl)) ?_
  with_reducible refine (spec_orSearch.calls k a0_0 a0_1 _ _ t899 t902 t905 t906 _ ?side1 ?side2 A5.out).mono ?_
  (case side1 => repeat (first | exact (Kd.R_reads' HO901.out).2.2 | (with_reducible refine Kd.C_alloc ?_ _) | (with_reducible refine Kd.C_drewN ?_ _) | (with_reducible refine Kd.C_drew ?_)))
  (case side2 => exact (Kd.R_reads' HO901.out).2.1)
  rintro e w12 ⟨v903, rfl, ho0, hb⟩
  refine ⟨_, rfl, ?_⟩
  have n0_ := Aside0.mk (Kd.R_elder' (by (with_reducible repeat (first | apply r_a | apply r_d | apply r_e)); exact HO901.out) (Kd.R_base ho0) hb)
  have n1_ := Aside0.mk (Kd.R_lower (Kd.R_new' ho0 (Kd.R_lt (by (with_reducible repeat (first | apply r_a | apply r_d | apply r_e)); exact HO901.out))) (below_size (bB HB)))
  have n2_ := bbx hb BK897
  have n3_ := bsx hb HB
  clear HO901
  clear BK897
  clear HB
  have HO901 := n0_
  have HO904 := n1_
  have BK897 := n2_
  have HB := n3_
  clear n0_ n1_ n2_ n3_
  (try clear hb)
  (try clear hb2)
  (try clear hk)
  (try clear hi)
  (try clear ho0)
  refine hK.out _ _ ⟨(blk_cell BK897.out 0).trans rfl, (blk_cell BK897.out 1).trans rfl⟩ (fun hHeld => ?_)
  clear hK K
  refine norm_ (a' := ?_) ?_ ?_
  rotate_left
  · show Act.put _ (some 14) _ = _
    simp only [Act.put, s_1, s_2, s_3, i64_w, i32_w]
    rfl
  refine pua 4 10 (bs_ 11 31) HT_ ?_
  refine pua 5 15 (bs_ 11 63) HT_ ?_
  refine pua 6 16 (bs_ 11 127) HT_ ?_
  refine pua 7 17 (bs_ 11 255) HT_ ?_
  refine pua 8 4 (bs_ 11 511) HT_ ?_
  refine pua 9 5 (bs_ 11 1023) HT_ ?_
  refine pua 10 6 (bs_ 11 2047) HT_ ?_
  refine done_ (done_of HT_.out (by kernel_rfl)) ?_
  try go_wp2
  go_ret2
  exact ⟨by first | rfl | (simp [errW_none, errW_some] <;> rfl) | (simp [*, errW_none, errW_some] <;> rfl), bB HB⟩
/-! ### impl_CountClosed: function 40 -/
def impl_CountClosed.f (k : Nat) (a0_0 : Int) (a0_1 : Int) : Option (Int × Bool) := (impl_isSmall.f k a0_0 a0_1 9).bind fun t930 => (if t930 = true then ((impl_Lock_wholes.f k a0_0 a0_1).bind fun bt931 => (some (bt931.2.2, true))) else (some (0, false)))
theorem impl_CountClosed.mono : ∀ a0 a1 k, LeO (impl_CountClosed.f k a0 a1) (impl_CountClosed.f (k + 1) a0 a1) := by
  intro a0 a1 k
  unfold impl_CountClosed.f
  repeat' first
      | (with_reducible exact impl_Lock_wholes.mono _ _ _)
      | (with_reducible exact impl_isSmall.mono _ _ _ _)
      | (with_reducible exact LeO.refl _)
      | (with_reducible exact LeO.none _)
      | (with_reducible refine LeO.ite ?_ ?_)
      | (with_reducible refine LeO.bind ?_ (fun _ => ?_))
      | exact impl_Lock_wholes.mono _ _ _
      | exact impl_isSmall.mono _ _ _ _
      | exact LeO.none _
      | refine LeO.ite ?_ ?_
      | refine LeO.bind ?_ (fun _ => ?_)
set_option maxHeartbeats 8000000 in
set_option maxRecDepth 100000 in
theorem impl_CountClosed.calls (k : Nat) (a0_0 : Int) (a0_1 : Int) (r1 : Int) (r2 : Bool) (w : World) (h : impl_CountClosed.f k a0_0 a0_1 = some (r1, r2)) :
    Calls Try.prog 40 #[.agg #[.int .i64 a0_0, .int .i64 a0_1]] w fun e w' => e = .returned (.tuple #[.int .i64 r1, .bool r2]) ∧ Below w.heap.size w w' := by
  have hu28 := Try.underlying28
  have HB := Aside0.mk (Below.refl w.heap.size w)
  have H : ((impl_isSmall.f k a0_0 a0_1 9).bind fun t930 => (if t930 = true then ((impl_Lock_wholes.f k a0_0 a0_1).bind fun bt931 => (some (bt931.2.2, true))) else (some (0, false)))) = some (r1, r2) := h
  clear h
  replace H := Option.bind_eq_some_iff.mp H
  obtain ⟨t930, A20, H⟩ := H
  try dsimp only at H
  have A2 := Aside0.mk A20
  clear A20
  by_cases c3 : t930 = true
  rotate_left
  · replace c3 := Bool.eq_false_iff.mpr c3
    subst c3
    rw [if_neg (show ¬ (false = true) by decide)] at H
    simp only [Option.some.injEq, Prod.mk.injEq] at H
    obtain ⟨rfl, rfl⟩ := H
    go_enter Try.func40, Try.ntmps40
    go_wp2_with (first | ((with_reducible refine gate_dst (N := 1) rfl ?_); refine box_event ?hg (N := 1) ?hd (cs := #[.int .i64 a0_0, .int .i64 a0_1]) (t := 28) ?hr ?_; (case hd => rfl); (case hg => rfl); (case hr => first | (go_simp; done) | (go_simp; rfl)); intro gb929 hg w10 hbox hb; have n0_ := bsx hb HB; have n1_ := Aside0.mk (hbox); have n2_ := gwx hg HB; have n3_ := n2_; clear HB; have HB := n0_; have BK929 := n1_; have GW929 := n2_; have GE929 := n3_; clear n0_ n1_ n2_ n3_; clear hb hbox hg; have hcz11_0 := cz0 BK929; have hcz11_1 := cz1 BK929; have hfz11_0 := blk_frozen BK929.out 0; have hfz11_1 := blk_frozen BK929.out 1) | ((with_reducible refine gate_callee (f := 82) rfl ?_); refine goesL_ (some 8) rfl rfl Try.func82 (by kernel_rfl) rfl #[.agg #[.int .i64 a0_0, .int .i64 a0_1], .int .i64 9] rfl (by (try simp only [m_1, m_2, m_3]); first | done | rfl | (simp only [m_4, m_5]; rfl)) ?_; (with_reducible refine (impl_isSmall.calls k a0_0 a0_1 9 false _ A2.out).mono ?_); rintro e w12 ⟨rfl, hb⟩; refine ⟨_, rfl, ?_⟩; replace BK929 := bbx hb BK929; replace HB := bsx hb HB; skip; (try clear hb); (try clear hb2); (try clear hk); (try clear hi)))
    go_ret2
    exact ⟨by first | rfl | (simp [errW_none, errW_some] <;> rfl) | (simp [*, errW_none, errW_some] <;> rfl), bB HB⟩

  subst c3
  rw [if_pos rfl] at H
  replace H := Option.bind_eq_some_iff.mp H
  obtain ⟨⟨t931, t934, t935⟩, A40, H⟩ := H
  try dsimp only at H
  have A4 := Aside0.mk A40
  clear A40
  simp only [Option.some.injEq, Prod.mk.injEq] at H
  obtain ⟨rfl, rfl⟩ := H
  go_enter Try.func40, Try.ntmps40
  go_wp2_with (first | ((with_reducible refine gate_dst (N := 1) rfl ?_); refine box_event ?hg (N := 1) ?hd (cs := #[.int .i64 a0_0, .int .i64 a0_1]) (t := 28) ?hr ?_; (case hd => rfl); (case hg => rfl); (case hr => first | (go_simp; done) | (go_simp; rfl)); intro gb929 hg w5 hbox hb; have n0_ := bsx hb HB; have n1_ := Aside0.mk (hbox); have n2_ := gwx hg HB; have n3_ := n2_; clear HB; have HB := n0_; have BK929 := n1_; have GW929 := n2_; have GE929 := n3_; clear n0_ n1_ n2_ n3_; clear hb hbox hg; have hcz6_0 := cz0 BK929; have hcz6_1 := cz1 BK929; have hfz6_0 := blk_frozen BK929.out 0; have hfz6_1 := blk_frozen BK929.out 1) | ((with_reducible refine gate_callee (f := 82) rfl ?_); refine goesL_ (some 8) rfl rfl Try.func82 (by kernel_rfl) rfl #[.agg #[.int .i64 a0_0, .int .i64 a0_1], .int .i64 9] rfl (by (try simp only [m_1, m_2, m_3]); first | done | rfl | (simp only [m_4, m_5]; rfl)) ?_; (with_reducible refine (impl_isSmall.calls k a0_0 a0_1 9 true _ A2.out).mono ?_); rintro e w7 ⟨rfl, hb⟩; refine ⟨_, rfl, ?_⟩; replace BK929 := bbx hb BK929; replace HB := bsx hb HB; skip; (try clear hb); (try clear hb2); (try clear hk); (try clear hi); have hcz8_0 := cz0 BK929; have hcz8_1 := cz1 BK929; have hfz8_0 := blk_frozen BK929.out 0; have hfz8_1 := blk_frozen BK929.out 1) | ((with_reducible refine gate_callee (f := 83) rfl ?_); refine goesL_ (some 12) rfl rfl Try.func83 (by kernel_rfl) rfl #[.agg #[.int .i64 a0_0, .int .i64 a0_1]] rfl (by (try simp only [m_1, m_2, m_3]); first | done | rfl | (simp only [m_4, m_5]; rfl)) ?_; (with_reducible refine (impl_Lock_wholes.calls k a0_0 a0_1 t931 t934 t935 _ A4.out).mono ?_); rintro e w9 ⟨v932, rfl, ho0, hb⟩; refine ⟨_, rfl, ?_⟩; have n0_ := Aside0.mk (Kd.R_lower ho0 (below_size (bB HB))); replace BK929 := bbx hb BK929; have n2_ := bsx hb HB; clear HB; have HO933 := n0_; have HB := n2_; clear n0_ n2_; (try clear hb); (try clear hb2); (try clear hk); (try clear hi); (try clear ho0)))
  go_ret2
  exact ⟨by first | rfl | (simp [errW_none, errW_some] <;> rfl) | (simp [*, errW_none, errW_some] <;> rfl), bB HB⟩
/-! ### laws_FnExactCountClosed: function 9 -/
def laws_FnExactCountClosed.f (k : Nat) (a0_0 : Int) (a0_1 : Int) : Option (Bool) := (laws_toLock.f a0_0 a0_1).bind fun bt937 => ((spec_CountClosed.f k bt937.1 bt937.2).bind fun bt939 => ((laws_toLock.f a0_0 a0_1).bind fun bt941 => ((impl_CountClosed.f k bt941.1 bt941.2).bind fun bt943 => (if bt943.1 = bt939.1 then (if (bt943.2 != bt939.2) = true then (some false) else (some true)) else (some false)))))
theorem laws_FnExactCountClosed.mono : ∀ a0 a1 k, LeO (laws_FnExactCountClosed.f k a0 a1) (laws_FnExactCountClosed.f (k + 1) a0 a1) := by
  intro a0 a1 k
  unfold laws_FnExactCountClosed.f
  repeat' first
      | (with_reducible exact impl_CountClosed.mono _ _ _)
      | (with_reducible exact spec_CountClosed.mono _ _ _)
      | (with_reducible exact LeO.refl _)
      | (with_reducible exact LeO.none _)
      | (with_reducible refine LeO.ite ?_ ?_)
      | (with_reducible refine LeO.bind ?_ (fun _ => ?_))
      | exact impl_CountClosed.mono _ _ _
      | exact spec_CountClosed.mono _ _ _
      | exact LeO.none _
      | refine LeO.ite ?_ ?_
      | refine LeO.bind ?_ (fun _ => ?_)
set_option maxHeartbeats 8000000 in
set_option maxRecDepth 100000 in
theorem laws_FnExactCountClosed.calls (k : Nat) (a0_0 : Int) (a0_1 : Int) (r : Bool) (w : World) (h : laws_FnExactCountClosed.f k a0_0 a0_1 = some r) (hr_ : r = true := by rfl) :
    Calls Try.prog 9 #[.agg #[.int .i64 a0_0, .int .i64 a0_1]] w fun e w' => e = .returned (.bool r) ∧ Below w.heap.size w w' := by
  have HRT := Aside0.mk hr_
  clear hr_
  have hu23 := Try.underlying23
  have HB := Aside0.mk (Below.refl w.heap.size w)
  have H : ((laws_toLock.f a0_0 a0_1).bind fun bt937 => ((spec_CountClosed.f k bt937.1 bt937.2).bind fun bt939 => ((laws_toLock.f a0_0 a0_1).bind fun bt941 => ((impl_CountClosed.f k bt941.1 bt941.2).bind fun bt943 => (if bt943.1 = bt939.1 then (if (bt943.2 != bt939.2) = true then (some false) else (some true)) else (some false)))))) = some r := h
  clear h
  replace H := Option.bind_eq_some_iff.mp H
  obtain ⟨⟨t937, t938⟩, A20, H⟩ := H
  try dsimp only at H
  have A2 := Aside0.mk A20
  clear A20
  replace H := Option.bind_eq_some_iff.mp H
  obtain ⟨⟨t939, t940⟩, A30, H⟩ := H
  try dsimp only at H
  have A3 := Aside0.mk A30
  clear A30
  replace H := Option.bind_eq_some_iff.mp H
  obtain ⟨⟨t941, t942⟩, A40, H⟩ := H
  try dsimp only at H
  have A4 := Aside0.mk A40
  clear A40
  replace H := Option.bind_eq_some_iff.mp H
  obtain ⟨⟨t943, t944⟩, A50, H⟩ := H
  try dsimp only at H
  have A5 := Aside0.mk A50
  clear A50
  by_cases c6 : t943 = t939
  rotate_left
  · rw [if_neg c6] at H
    have c6b0 : (t943 == t939) = false := beq_eq_false_iff_ne.mpr c6
    have c6b1 : (t943 != t939) = true := bne_iff_ne.mpr c6
    rw [HRT.out] at H
    exact absurd H (by simp)

  rw [if_pos c6] at H
  have c6b0 : (t943 == t939) = true := beq_iff_eq.mpr c6
  have c6b1 : (t943 != t939) = false := bne_eq_false_iff_eq.mpr c6
  clear c6
  by_cases c7 : (t944 != t940) = true
  · rw [if_pos c7] at H
    have c7b0 : (t944 != t940) = true := c7
    (try (have c7b1 : decide (t944 = t940) = false := by simpa using c7))
    (try (have c7b2 : (t944 == t940) = false := by simpa using c7))
    (try (have c7b3 : ¬ (t944 = t940) := by simpa using c7))
    clear c7
    rw [HRT.out] at H
    exact absurd H (by simp)
  rw [if_neg c7] at H
  have c7b0 : (t944 != t940) = false := by simpa using c7
  (try (have c7b1 : decide (t944 = t940) = true := by simpa using c7))
  (try (have c7b2 : (t944 == t940) = true := by simpa using c7))
  clear c7
  obtain rfl := Option.some.inj H
  go_enter Try.func9, Try.ntmps9
  go_wp2_with (first | ((with_reducible refine gate_dst (N := 1) rfl ?_); refine box_event ?hg (N := 1) ?hd (cs := #[.int .i64 a0_0, .int .i64 a0_1]) (t := 23) ?hr ?_; (case hd => rfl); (case hg => rfl); (case hr => first | (go_simp; done) | (go_simp; rfl)); intro gb936 hg w8 hbox hb; have n0_ := bsx hb HB; have n1_ := Aside0.mk (hbox); have n2_ := gwx hg HB; have n3_ := n2_; clear HB; have HB := n0_; have BK936 := n1_; have GW936 := n2_; have GE936 := n3_; clear n0_ n1_ n2_ n3_; clear hb hbox hg; have hcz9_0 := cz0 BK936; have hcz9_1 := cz1 BK936; have hfz9_0 := blk_frozen BK936.out 0; have hfz9_1 := blk_frozen BK936.out 1) | ((with_reducible refine gate_callee (f := 16) rfl ?_); refine goesL_ (some 9) rfl rfl Try.func16 (by kernel_rfl) rfl #[.agg #[.int .i64 a0_0, .int .i64 a0_1]] rfl (by (try simp only [m_1, m_2, m_3]); first | done | rfl | (simp only [m_4, m_5]; rfl)) ?_; (with_reducible refine (laws_toLock.calls a0_0 a0_1 t937 t938 _ A2.out).mono ?_); rintro e w10 ⟨rfl, hb⟩; refine ⟨_, rfl, ?_⟩; replace BK936 := bbx hb BK936; replace HB := bsx hb HB; skip; (try clear hb); (try clear hb2); (try clear hk); (try clear hi)) | ((with_reducible refine gate_callee (f := 39) rfl ?_); refine goesL_ (some 10) rfl rfl Try.func39 (by kernel_rfl) rfl #[.agg #[.int .i64 t937, .int .i64 t938]] rfl (by (try simp only [m_1, m_2, m_3]); first | done | rfl | (simp only [m_4, m_5]; rfl)) ?_; (with_reducible refine (spec_CountClosed.calls k t937 t938 t939 t940 _ A3.out).mono ?_); rintro e w11 ⟨rfl, hb⟩; refine ⟨_, rfl, ?_⟩; replace BK936 := bbx hb BK936; replace HB := bsx hb HB; skip; (try clear hb); (try clear hb2); (try clear hk); (try clear hi); have hcz12_0 := cz0 BK936; have hcz12_1 := cz1 BK936; have hfz12_0 := blk_frozen BK936.out 0; have hfz12_1 := blk_frozen BK936.out 1) | ((with_reducible refine gate_callee (f := 16) rfl ?_); refine goesL_ (some 15) rfl rfl Try.func16 (by kernel_rfl) rfl #[.agg #[.int .i64 a0_0, .int .i64 a0_1]] rfl (by (try simp only [m_1, m_2, m_3]); first | done | rfl | (simp only [m_4, m_5]; rfl)) ?_; (with_reducible refine (laws_toLock.calls a0_0 a0_1 t941 t942 _ A4.out).mono ?_); rintro e w13 ⟨rfl, hb⟩; refine ⟨_, rfl, ?_⟩; replace BK936 := bbx hb BK936; replace HB := bsx hb HB; skip; (try clear hb); (try clear hb2); (try clear hk); (try clear hi)) | ((with_reducible refine gate_callee (f := 40) rfl ?_); refine goesL_ (some 16) rfl rfl Try.func40 (by kernel_rfl) rfl #[.agg #[.int .i64 t941, .int .i64 t942]] rfl (by (try simp only [m_1, m_2, m_3]); first | done | rfl | (simp only [m_4, m_5]; rfl)) ?_; (with_reducible refine (impl_CountClosed.calls k t941 t942 t943 t944 _ A5.out).mono ?_); rintro e w14 ⟨rfl, hb⟩; refine ⟨_, rfl, ?_⟩; replace BK936 := bbx hb BK936; replace HB := bsx hb HB; skip; (try clear hb); (try clear hb2); (try clear hk); (try clear hi)))
  go_ret
  exact ⟨by first | rfl | (simp [errW_none, errW_some] <;> rfl) | (simp [*, errW_none, errW_some] <;> rfl), bB HB⟩
end Go.Proofs.Ytihhiolflbieaaa.P
