-- Texts of this session's own program (wip/dr.py), which runs the kit's printer.
import Derived.Test.YtihhiolflbieaaaPx0
import Derived.Test.YtihhiolflbieaaaPx2
import Derived.Test.YtihhiolflbieaaaPx28
import Derived.Test.YtihhiolflbieaaaPx49
import Derived.Test.YtihhiolflbieaaaPx62
import Derived.Test.YtihhiolflbieaaaPx71
import Derived.Test.YtihhiolflbieaaaPx125
import Derived.Test.YtihhiolflbieaaaPx133
import Derived.Test.YtihhiolflbieaaaPx142
namespace Go.Proofs.Ytihhiolflbieaaa.P
open Go.RowKit Go.Proofs.YtihhiolflbieaaaW.PrintWords Go.Proofs.YtihhiolflbieaaaW.PrintLast Go.Proofs.YtihhiolflbieaaaW.PrintMore
attribute [local go_sem] max2_int min2_int max_two min_two max_three min_three max_four min_four   -- for this text's walks alone
set_option linter.unusedVariables false
set_option linter.unusedSimpArgs false

/-! ### spec_FirstWhole: function 45 -/
def spec_FirstWhole.f (k : Nat) (a0_0 : Int) (a0_1 : Int) : Option (List ByteArray × Bool) := (spec_orFew.f k a0_0 a0_1).bind fun t1017 => (if t1017 = true then ((spec_orZero.f k a0_0 a0_1).bind fun t1018 => ((spec_orSearch.f k a0_0 a0_1 t1018).bind fun bt1021 => (some (bt1021.1, true)))) else (some (([] : List ByteArray), false)))
theorem spec_FirstWhole.mono : ∀ a0 a1 k, LeO (spec_FirstWhole.f k a0 a1) (spec_FirstWhole.f (k + 1) a0 a1) := by
  intro a0 a1 k
  unfold spec_FirstWhole.f
  repeat' first
      | (with_reducible exact spec_orFew.mono _ _ _)
      | (with_reducible exact spec_orSearch.mono _ _ _ _)
      | (with_reducible exact spec_orZero.mono _ _ _)
      | (with_reducible exact LeO.refl _)
      | (with_reducible exact LeO.none _)
      | (with_reducible refine LeO.ite ?_ ?_)
      | (with_reducible refine LeO.bind ?_ (fun _ => ?_))
      | exact spec_orFew.mono _ _ _
      | exact spec_orSearch.mono _ _ _ _
      | exact spec_orZero.mono _ _ _
      | exact LeO.none _
      | refine LeO.ite ?_ ?_
      | refine LeO.bind ?_ (fun _ => ?_)
def spec_FirstWhole.T3 : Bool × List (List Nat × List Nat) := (true, [([], []), ([], []), ([1], [1]), ([0, 2, 2], [0, 2]), ([3], [3]), ([4], [4]), ([4], [4]), ([4], [4]), ([5, 3, 0, 1, 2, 3, 4, 5], [5]), ([6, 8, 0, 1, 2, 3, 4, 5, 6, 8], [6]), ([7, 9, 0, 1, 2, 3, 4, 5, 6, 7, 8, 9], [7])])
def spec_FirstWhole.B3 : List Nat := [0, 0, 2, 7, 15, 31, 31, 31, 63, 383, 1023]
theorem spec_FirstWhole.tab3 : rtab .any (opsOf Try.f45 3) = spec_FirstWhole.T3 := by kernel_rfl
theorem spec_FirstWhole.bits3 : waitsOk spec_FirstWhole.T3.2 spec_FirstWhole.B3 = true := by kernel_rfl
set_option maxHeartbeats 8000000 in
set_option maxRecDepth 100000 in
theorem spec_FirstWhole.calls (k : Nat) (a0_0 : Int) (a0_1 : Int) (r1 : List ByteArray) (r2 : Bool) (w : World) (h : spec_FirstWhole.f k a0_0 a0_1 = some (r1, r2)) :
    Calls Try.prog 45 #[.agg #[.int .i64 a0_0, .int .i64 a0_1]] w fun e w' => ∃ v0_ : Value, e = .returned (.tuple #[v0_, .bool r2]) ∧ Kd.R Kd.string 9 w' w.heap.size (fun _ => True) v0_ r1 ∧ Below w.heap.size w w' := by
  have hu28 := Try.underlying28
  have HB := Aside0.mk (Below.refl w.heap.size w)
  have H : ((spec_orFew.f k a0_0 a0_1).bind fun t1017 => (if t1017 = true then ((spec_orZero.f k a0_0 a0_1).bind fun t1018 => ((spec_orSearch.f k a0_0 a0_1 t1018).bind fun bt1021 => (some (bt1021.1, true)))) else (some (([] : List ByteArray), false)))) = some (r1, r2) := h
  clear h
  replace H := Option.bind_eq_some_iff.mp H
  obtain ⟨t1017, A20, H⟩ := H
  try dsimp only at H
  have A2 := Aside0.mk A20
  clear A20
  by_cases c3 : t1017 = true
  rotate_left
  · replace c3 := Bool.eq_false_iff.mpr c3
    subst c3
    rw [if_neg (show ¬ (false = true) by decide)] at H
    simp only [Option.some.injEq, Prod.mk.injEq] at H
    obtain ⟨rfl, rfl⟩ := H
    go_enter Try.func45, Try.ntmps45
    go_wp2_with (first | ((with_reducible refine gate_dst (N := 1) rfl ?_); refine box_event ?hg (N := 1) ?hd (cs := #[.int .i64 a0_0, .int .i64 a0_1]) (t := 28) ?hr ?_; (case hd => rfl); (case hg => rfl); (case hr => first | (go_simp; done) | (go_simp; rfl)); intro gb1016 hg w13 hbox hb; have n0_ := bsx hb HB; have n1_ := Aside0.mk (hbox); have n2_ := gwx hg HB; have n3_ := n2_; clear HB; have HB := n0_; have BK1016 := n1_; have GW1016 := n2_; have GE1016 := n3_; clear n0_ n1_ n2_ n3_; clear hb hbox hg; have hcz14_0 := cz0 BK1016; have hcz14_1 := cz1 BK1016; have hfz14_0 := blk_frozen BK1016.out 0; have hfz14_1 := blk_frozen BK1016.out 1) | ((with_reducible refine gate_callee (f := 79) rfl ?_); refine goesL_ (some 8) rfl rfl Try.func79 (by kernel_rfl) rfl #[.agg #[.int .i64 a0_0, .int .i64 a0_1]] rfl (by (try simp only [m_1, m_2, m_3]); first | done | rfl | (simp only [m_4, m_5]; rfl)) ?_; (with_reducible refine (spec_orFew.calls k a0_0 a0_1 false _ A2.out).mono ?_); rintro e w15 ⟨rfl, hb⟩; refine ⟨_, rfl, ?_⟩; replace BK1016 := bbx hb BK1016; replace HB := bsx hb HB; skip; (try clear hb); (try clear hb2); (try clear hk); (try clear hi)))
    go_ret2
    exact ⟨_, by first | rfl | (simp [errW_none, errW_some] <;> rfl) | (simp [*, errW_none, errW_some] <;> rfl), by first | exact Kd.R_nil _ _ _ _ _ | exact Kd.N_nil _ _ _ _ _ | exact Kd.V_nil _ _ _ _ _ | exact Kd.Q_nil _ _ _ _ _ | exact Kd.S_nil _ _ _ _ _, bB HB⟩

  subst c3
  rw [if_pos rfl] at H
  replace H := Option.bind_eq_some_iff.mp H
  obtain ⟨t1018, A40, H⟩ := H
  try dsimp only at H
  have A4 := Aside0.mk A40
  clear A40
  replace H := Option.bind_eq_some_iff.mp H
  obtain ⟨⟨t1021, t1024, t1025⟩, A50, H⟩ := H
  try dsimp only at H
  have A5 := Aside0.mk A50
  clear A50
  simp only [Option.some.injEq, Prod.mk.injEq] at H
  obtain ⟨rfl, rfl⟩ := H
  go_enter Try.func45, Try.ntmps45
  try go_wp2_with (first | ((with_reducible refine gate_dst (N := 1) rfl ?_); refine box_event ?hg (N := 1) ?hd (cs := #[.int .i64 a0_0, .int .i64 a0_1]) (t := 28) ?hr ?_; (case hd => rfl); (case hg => rfl); (case hr => first | (go_simp; done) | (go_simp; rfl)); intro gb1016 hg w6 hbox hb; have n0_ := bsx hb HB; have n1_ := Aside0.mk (hbox); have n2_ := gwx hg HB; have n3_ := n2_; clear HB; have HB := n0_; have BK1016 := n1_; have GW1016 := n2_; have GE1016 := n3_; clear n0_ n1_ n2_ n3_; clear hb hbox hg; have hcz7_0 := cz0 BK1016; have hcz7_1 := cz1 BK1016; have hfz7_0 := blk_frozen BK1016.out 0; have hfz7_1 := blk_frozen BK1016.out 1) | ((with_reducible refine gate_callee (f := 79) rfl ?_); refine goesL_ (some 8) rfl rfl Try.func79 (by kernel_rfl) rfl #[.agg #[.int .i64 a0_0, .int .i64 a0_1]] rfl (by (try simp only [m_1, m_2, m_3]); first | done | rfl | (simp only [m_4, m_5]; rfl)) ?_; (with_reducible refine (spec_orFew.calls k a0_0 a0_1 true _ A2.out).mono ?_); rintro e w8 ⟨rfl, hb⟩; refine ⟨_, rfl, ?_⟩; replace BK1016 := bbx hb BK1016; replace HB := bsx hb HB; skip; (try clear hb); (try clear hb2); (try clear hk); (try clear hi)))
  have n0_ := Aside0.mk (g_e BK1016.out)
  have n1_ := Aside0.mk (b_e HB.out)
  clear BK1016
  clear HB
  have BK1016 := n0_
  have HB := n1_
  clear n0_ n1_
  refine start_ (n := 11) (S := fun w' => w'.cell? ⟨gb1016, 0, none⟩ = some (.int .i64 a0_0) ∧ w'.cell? ⟨gb1016, 1, none⟩ = some (.int .i64 a0_1)) (ds := []) (bs_ 11 0) (by kernel_rfl) rfl rfl ⟨(blk_cell BK1016.out 0).trans rfl, (blk_cell BK1016.out 1).trans rfl⟩ (fun hHeld => ?_); refine with_tabW spec_FirstWhole.tab3 spec_FirstWhole.bits3 (fun HT_ HW_ => ?_)
  generalize w8.drew = w9 at BK1016 HB hHeld ⊢
  refine tk_ 0 11 (bs_ 11 1) rfl rfl HT_ HW_ (by kernel_rfl) (fun _ _ _ h => h) (by rfl) hHeld (by rintro w' ⟨s0, s1⟩; go_simp; with_reducible rfl) (by simp only [Act.put, s_1, s_2, s_3, i64_w, i32_w]; rfl) ?_
  refine tk_ 1 12 (bs_ 11 3) rfl rfl HT_ HW_ (by kernel_rfl) (fun _ _ _ h => h) (by rfl) hHeld (by rintro w' ⟨s0, s1⟩; go_simp; with_reducible rfl) (by simp only [Act.put, s_1, s_2, s_3, i64_w, i32_w]; rfl) ?_
  refine one_ (i := 2) (N := some 13) (bs_ 11 7) rfl rfl (one_of HT_.out (by kernel_rfl)) (by decide) (fun K hK => ?_)
  refine goes_ Try.func81 (by kernel_rfl) rfl #[.agg #[.int .i64 a0_0, .int .i64 a0_1]] (by rfl) rfl rfl (by (try simp only [m_1, m_2, m_3]); first | done | rfl | (simp only [m_4, m_5]; rfl)) ?_
  with_reducible refine (spec_orZero.calls k a0_0 a0_1 t1018 _ A4.out).mono ?_
  rintro e w10 ⟨v1019, rfl, ho0, hb⟩
  refine ⟨_, rfl, ?_⟩
  have n0_ := Aside0.mk (Kd.R_lower ho0 (below_size (bB HB)))
  have n1_ := bbx hb BK1016
  have n2_ := bsx hb HB
  clear BK1016
  clear HB
  have HO1020 := n0_
  have BK1016 := n1_
  have HB := n2_
  clear n0_ n1_ n2_
  (try clear hb)
  (try clear hb2)
  (try clear hk)
  (try clear hi)
  (try clear ho0)
  obtain ⟨Ao11, co11, eo11⟩ := Kd.R_slice HO1020.out
  (first | subst eo11 | (injection eo11 with f1_ f2_ f3_; have f4_ := f1_.symm; have f5_ := f3_.symm; clear f1_ f2_ f3_; subst f4_; subst f5_))
  refine hK.out _ _ ⟨(blk_cell BK1016.out 0).trans rfl, (blk_cell BK1016.out 1).trans rfl⟩ (fun hHeld => ?_)
  clear hK K
  refine norm_ (a' := ?_) ?_ ?_
  rotate_left
  · show Act.put _ (some 13) _ = _
    simp only [Act.put, s_1, s_2, s_3, i64_w, i32_w]
    rfl
  refine one_ (i := 3) (N := some 14) (bs_ 11 15) rfl rfl (one_of HT_.out (by kernel_rfl)) (by decide) (fun K hK => ?_)
  refine goes_ Try.func80 (by kernel_rfl) rfl #[.agg #[.int .i64 a0_0, .int .i64 a0_1], .slice Ao11 t1018.length co11] (by rfl) rfl rfl (by (try simp only [m_1, m_2, m_3]); first | done | rfl | (simp only [m_4, m_5]; rfl)) ?_
  with_reducible refine (spec_orSearch.calls k a0_0 a0_1 _ _ t1018 t1021 t1024 t1025 _ ?side1 ?side2 A5.out).mono ?_
  (case side1 => repeat (first | exact (Kd.R_reads' HO1020.out).2.2 | (with_reducible refine Kd.C_alloc ?_ _) | (with_reducible refine Kd.C_drewN ?_ _) | (with_reducible refine Kd.C_drew ?_)))
  (case side2 => exact (Kd.R_reads' HO1020.out).2.1)
  rintro e w12 ⟨v1022, rfl, ho0, hb⟩
  refine ⟨_, rfl, ?_⟩
  have n0_ := Aside0.mk (Kd.R_elder' (by (with_reducible repeat (first | apply r_a | apply r_d | apply r_e)); exact HO1020.out) (Kd.R_base ho0) hb)
  have n1_ := Aside0.mk (Kd.R_lower (Kd.R_new' ho0 (Kd.R_lt (by (with_reducible repeat (first | apply r_a | apply r_d | apply r_e)); exact HO1020.out))) (below_size (bB HB)))
  have n2_ := bbx hb BK1016
  have n3_ := bsx hb HB
  clear HO1020
  clear BK1016
  clear HB
  have HO1020 := n0_
  have HO1023 := n1_
  have BK1016 := n2_
  have HB := n3_
  clear n0_ n1_ n2_ n3_
  (try clear hb)
  (try clear hb2)
  (try clear hk)
  (try clear hi)
  (try clear ho0)
  refine hK.out _ _ ⟨(blk_cell BK1016.out 0).trans rfl, (blk_cell BK1016.out 1).trans rfl⟩ (fun hHeld => ?_)
  clear hK K
  refine norm_ (a' := ?_) ?_ ?_
  rotate_left
  · show Act.put _ (some 14) _ = _
    simp only [Act.put, s_1, s_2, s_3, i64_w, i32_w]
    rfl
  refine pua 4 10 (bs_ 11 31) HT_ ?_
  refine pua 5 15 (bs_ 11 63) HT_ ?_
  refine pua 6 16 (bs_ 11 127) HT_ ?_
  refine pua 7 17 (bs_ 11 255) HT_ ?_
  refine pua 8 4 (bs_ 11 511) HT_ ?_
  refine pua 9 5 (bs_ 11 1023) HT_ ?_
  refine pua 10 6 (bs_ 11 2047) HT_ ?_
  refine done_ (done_of HT_.out (by kernel_rfl)) ?_
  try go_wp2
  go_ret2
  exact ⟨_, by first | rfl | (simp [errW_none, errW_some] <;> rfl) | (simp [*, errW_none, errW_some] <;> rfl), by (with_reducible repeat (first | apply r_a | apply r_d | apply r_e)); exact Kd.R_mono HO1023.out (fun _ hk => trivial), bB HB⟩
/-! ### impl_FirstWhole: function 46 -/
def impl_FirstWhole.f (k : Nat) (a0_0 : Int) (a0_1 : Int) : Option (List ByteArray × Bool) := (impl_isSmall.f k a0_0 a0_1 9).bind fun t1027 => (if t1027 = true then ((impl_Lock_wholes.f k a0_0 a0_1).bind fun bt1028 => (some (bt1028.1, decide (bt1028.2.1 > 0)))) else (some (([] : List ByteArray), false)))
theorem impl_FirstWhole.mono : ∀ a0 a1 k, LeO (impl_FirstWhole.f k a0 a1) (impl_FirstWhole.f (k + 1) a0 a1) := by
  intro a0 a1 k
  unfold impl_FirstWhole.f
  repeat' first
      | (with_reducible exact impl_Lock_wholes.mono _ _ _)
      | (with_reducible exact impl_isSmall.mono _ _ _ _)
      | (with_reducible exact LeO.refl _)
      | (with_reducible exact LeO.none _)
      | (with_reducible refine LeO.ite ?_ ?_)
      | (with_reducible refine LeO.bind ?_ (fun _ => ?_))
      | exact impl_Lock_wholes.mono _ _ _
      | exact impl_isSmall.mono _ _ _ _
      | exact LeO.none _
      | refine LeO.ite ?_ ?_
      | refine LeO.bind ?_ (fun _ => ?_)
set_option maxHeartbeats 8000000 in
set_option maxRecDepth 100000 in
theorem impl_FirstWhole.calls (k : Nat) (a0_0 : Int) (a0_1 : Int) (r1 : List ByteArray) (r2 : Bool) (w : World) (h : impl_FirstWhole.f k a0_0 a0_1 = some (r1, r2)) :
    Calls Try.prog 46 #[.agg #[.int .i64 a0_0, .int .i64 a0_1]] w fun e w' => ∃ v0_ : Value, e = .returned (.tuple #[v0_, .bool r2]) ∧ Kd.R Kd.string 9 w' w.heap.size (fun _ => True) v0_ r1 ∧ Below w.heap.size w w' := by
  have hu28 := Try.underlying28
  have HB := Aside0.mk (Below.refl w.heap.size w)
  have H : ((impl_isSmall.f k a0_0 a0_1 9).bind fun t1027 => (if t1027 = true then ((impl_Lock_wholes.f k a0_0 a0_1).bind fun bt1028 => (some (bt1028.1, decide (bt1028.2.1 > 0)))) else (some (([] : List ByteArray), false)))) = some (r1, r2) := h
  clear h
  replace H := Option.bind_eq_some_iff.mp H
  obtain ⟨t1027, A20, H⟩ := H
  try dsimp only at H
  have A2 := Aside0.mk A20
  clear A20
  by_cases c3 : t1027 = true
  rotate_left
  · replace c3 := Bool.eq_false_iff.mpr c3
    subst c3
    rw [if_neg (show ¬ (false = true) by decide)] at H
    simp only [Option.some.injEq, Prod.mk.injEq] at H
    obtain ⟨rfl, rfl⟩ := H
    go_enter Try.func46, Try.ntmps46
    go_wp2_with (first | ((with_reducible refine gate_dst (N := 1) rfl ?_); refine box_event ?hg (N := 1) ?hd (cs := #[.int .i64 a0_0, .int .i64 a0_1]) (t := 28) ?hr ?_; (case hd => rfl); (case hg => rfl); (case hr => first | (go_simp; done) | (go_simp; rfl)); intro gb1026 hg w10 hbox hb; have n0_ := bsx hb HB; have n1_ := Aside0.mk (hbox); have n2_ := gwx hg HB; have n3_ := n2_; clear HB; have HB := n0_; have BK1026 := n1_; have GW1026 := n2_; have GE1026 := n3_; clear n0_ n1_ n2_ n3_; clear hb hbox hg; have hcz11_0 := cz0 BK1026; have hcz11_1 := cz1 BK1026; have hfz11_0 := blk_frozen BK1026.out 0; have hfz11_1 := blk_frozen BK1026.out 1) | ((with_reducible refine gate_callee (f := 82) rfl ?_); refine goesL_ (some 8) rfl rfl Try.func82 (by kernel_rfl) rfl #[.agg #[.int .i64 a0_0, .int .i64 a0_1], .int .i64 9] rfl (by (try simp only [m_1, m_2, m_3]); first | done | rfl | (simp only [m_4, m_5]; rfl)) ?_; (with_reducible refine (impl_isSmall.calls k a0_0 a0_1 9 false _ A2.out).mono ?_); rintro e w12 ⟨rfl, hb⟩; refine ⟨_, rfl, ?_⟩; replace BK1026 := bbx hb BK1026; replace HB := bsx hb HB; skip; (try clear hb); (try clear hb2); (try clear hk); (try clear hi)))
    go_ret2
    exact ⟨_, by first | rfl | (simp [errW_none, errW_some] <;> rfl) | (simp [*, errW_none, errW_some] <;> rfl), by first | exact Kd.R_nil _ _ _ _ _ | exact Kd.N_nil _ _ _ _ _ | exact Kd.V_nil _ _ _ _ _ | exact Kd.Q_nil _ _ _ _ _ | exact Kd.S_nil _ _ _ _ _, bB HB⟩

  subst c3
  rw [if_pos rfl] at H
  replace H := Option.bind_eq_some_iff.mp H
  obtain ⟨⟨t1028, t1031, t1032⟩, A40, H⟩ := H
  try dsimp only at H
  have A4 := Aside0.mk A40
  clear A40
  simp only [Option.some.injEq, Prod.mk.injEq] at H
  obtain ⟨rfl, rfl⟩ := H
  go_enter Try.func46, Try.ntmps46
  go_wp2_with (first | ((with_reducible refine gate_dst (N := 1) rfl ?_); refine box_event ?hg (N := 1) ?hd (cs := #[.int .i64 a0_0, .int .i64 a0_1]) (t := 28) ?hr ?_; (case hd => rfl); (case hg => rfl); (case hr => first | (go_simp; done) | (go_simp; rfl)); intro gb1026 hg w5 hbox hb; have n0_ := bsx hb HB; have n1_ := Aside0.mk (hbox); have n2_ := gwx hg HB; have n3_ := n2_; clear HB; have HB := n0_; have BK1026 := n1_; have GW1026 := n2_; have GE1026 := n3_; clear n0_ n1_ n2_ n3_; clear hb hbox hg; have hcz6_0 := cz0 BK1026; have hcz6_1 := cz1 BK1026; have hfz6_0 := blk_frozen BK1026.out 0; have hfz6_1 := blk_frozen BK1026.out 1) | ((with_reducible refine gate_callee (f := 82) rfl ?_); refine goesL_ (some 8) rfl rfl Try.func82 (by kernel_rfl) rfl #[.agg #[.int .i64 a0_0, .int .i64 a0_1], .int .i64 9] rfl (by (try simp only [m_1, m_2, m_3]); first | done | rfl | (simp only [m_4, m_5]; rfl)) ?_; (with_reducible refine (impl_isSmall.calls k a0_0 a0_1 9 true _ A2.out).mono ?_); rintro e w7 ⟨rfl, hb⟩; refine ⟨_, rfl, ?_⟩; replace BK1026 := bbx hb BK1026; replace HB := bsx hb HB; skip; (try clear hb); (try clear hb2); (try clear hk); (try clear hi); have hcz8_0 := cz0 BK1026; have hcz8_1 := cz1 BK1026; have hfz8_0 := blk_frozen BK1026.out 0; have hfz8_1 := blk_frozen BK1026.out 1) | ((with_reducible refine gate_callee (f := 83) rfl ?_); refine goesL_ (some 12) rfl rfl Try.func83 (by kernel_rfl) rfl #[.agg #[.int .i64 a0_0, .int .i64 a0_1]] rfl (by (try simp only [m_1, m_2, m_3]); first | done | rfl | (simp only [m_4, m_5]; rfl)) ?_; (with_reducible refine (impl_Lock_wholes.calls k a0_0 a0_1 t1028 t1031 t1032 _ A4.out).mono ?_); rintro e w9 ⟨v1029, rfl, ho0, hb⟩; refine ⟨_, rfl, ?_⟩; have n0_ := Aside0.mk (Kd.R_lower ho0 (below_size (bB HB))); replace BK1026 := bbx hb BK1026; have n2_ := bsx hb HB; clear HB; have HO1030 := n0_; have HB := n2_; clear n0_ n2_; (try clear hb); (try clear hb2); (try clear hk); (try clear hi); (try clear ho0)))
  go_ret2
  exact ⟨_, by first | rfl | (simp [errW_none, errW_some] <;> rfl) | (simp [*, errW_none, errW_some] <;> rfl), by (with_reducible repeat (first | apply r_a | apply r_d | apply r_e)); exact HO1030.out, bB HB⟩
/-! ### laws_FnExactFirstWhole: function 12 -/
mutual
def laws_FnExactFirstWhole.j0 : Nat → List ByteArray → Bool → List ByteArray → Bool → Int → Int → Option (Bool)
  | 0, _, _, _, _, _, _ => none
  | k + 1, x3, x4, x5, x31, x1034000, x1034001 => if x31 = true then (some false) else ((laws_markStringS.f k x5 1).bind fun bt1047 => ((laws_heldStringS.f k bt1047.2 1).bind fun t1049 => (if t1049 < 0 then (some false) else (if t1049 = bt1047.1 then ((laws_toLock.f x1034000 x1034001).bind fun bt1050 => ((impl_FirstWhole.f k bt1050.1 bt1050.2).bind fun bt1052 => ((laws_eqStringS.f k bt1052.1 x3).bind fun t1056 => (if t1056 = true then (laws_FnExactFirstWhole.j1 k bt1047.2 bt1047.1 (bt1052.2 != x4)) else (laws_FnExactFirstWhole.j1 k bt1047.2 bt1047.1 true))))) else (some false)))))
def laws_FnExactFirstWhole.j1 : Nat → List ByteArray → Int → Bool → Option (Bool)
  | 0, _, _, _ => none
  | k + 1, x5, x7, x57 => if x57 = true then (some false) else ((laws_heldStringS.f k x5 1).bind fun t1057 => (if t1057 < 0 then (some false) else (if t1057 = x7 then (some true) else (some false))))
end
def laws_FnExactFirstWhole.f (k : Nat) (a0_0 : Int) (a0_1 : Int) : Option (Bool) := (laws_toLock.f a0_0 a0_1).bind fun bt1034 => ((spec_FirstWhole.f k bt1034.1 bt1034.2).bind fun bt1036 => ((laws_toLock.f a0_0 a0_1).bind fun bt1040 => ((impl_FirstWhole.f k bt1040.1 bt1040.2).bind fun bt1042 => ((laws_eqStringS.f k bt1042.1 bt1036.1).bind fun t1046 => (if t1046 = true then (laws_FnExactFirstWhole.j0 k bt1036.1 bt1036.2 bt1042.1 (bt1042.2 != bt1036.2) a0_0 a0_1) else (laws_FnExactFirstWhole.j0 k bt1036.1 bt1036.2 bt1042.1 true a0_0 a0_1))))))
theorem laws_FnExactFirstWhole.mono_l : ∀ k, (∀ y0 y1 y2 y3 y4 y5, LeO (laws_FnExactFirstWhole.j0 k y0 y1 y2 y3 y4 y5) (laws_FnExactFirstWhole.j0 (k + 1) y0 y1 y2 y3 y4 y5)) ∧ (∀ y0 y1 y2, LeO (laws_FnExactFirstWhole.j1 k y0 y1 y2) (laws_FnExactFirstWhole.j1 (k + 1) y0 y1 y2))
  | 0 => ⟨fun _ _ _ _ _ _ r h => by simp [laws_FnExactFirstWhole.j0] at h, fun _ _ _ r h => by simp [laws_FnExactFirstWhole.j1] at h⟩
  | k + 1 => by
    obtain ⟨ih0, ih1⟩ := laws_FnExactFirstWhole.mono_l k
    refine ⟨?_, ?_⟩
    rotate_left
    · intro y0 y1 y2
      unfold laws_FnExactFirstWhole.j1
      repeat' first
      | (with_reducible exact ih0 _ _ _ _ _ _)
      | (with_reducible exact ih1 _ _ _)
      | (with_reducible exact impl_FirstWhole.mono _ _ _)
      | (with_reducible exact laws_eqStringS.mono _ _ _)
      | (with_reducible exact laws_heldStringS.mono _ _ _)
      | (with_reducible exact laws_markStringS.mono _ _ _)
      | (with_reducible exact spec_FirstWhole.mono _ _ _)
      | (with_reducible exact LeO.refl _)
      | (with_reducible exact LeO.none _)
      | (with_reducible refine LeO.ite ?_ ?_)
      | (with_reducible refine LeO.bind ?_ (fun _ => ?_))
      | exact ih0 _ _ _ _ _ _
      | exact ih1 _ _ _
      | exact impl_FirstWhole.mono _ _ _
      | exact laws_eqStringS.mono _ _ _
      | exact laws_heldStringS.mono _ _ _
      | exact laws_markStringS.mono _ _ _
      | exact spec_FirstWhole.mono _ _ _
      | exact LeO.none _
      | refine LeO.ite ?_ ?_
      | refine LeO.bind ?_ (fun _ => ?_)
    intro y0 y1 y2 y3 y4 y5
    unfold laws_FnExactFirstWhole.j0
    repeat' first
    | (with_reducible exact ih0 _ _ _ _ _ _)
    | (with_reducible exact ih1 _ _ _)
    | (with_reducible exact impl_FirstWhole.mono _ _ _)
    | (with_reducible exact laws_eqStringS.mono _ _ _)
    | (with_reducible exact laws_heldStringS.mono _ _ _)
    | (with_reducible exact laws_markStringS.mono _ _ _)
    | (with_reducible exact spec_FirstWhole.mono _ _ _)
    | (with_reducible exact LeO.refl _)
    | (with_reducible exact LeO.none _)
    | (with_reducible refine LeO.ite ?_ ?_)
    | (with_reducible refine LeO.bind ?_ (fun _ => ?_))
    | exact ih0 _ _ _ _ _ _
    | exact ih1 _ _ _
    | exact impl_FirstWhole.mono _ _ _
    | exact laws_eqStringS.mono _ _ _
    | exact laws_heldStringS.mono _ _ _
    | exact laws_markStringS.mono _ _ _
    | exact spec_FirstWhole.mono _ _ _
    | exact LeO.none _
    | refine LeO.ite ?_ ?_
    | refine LeO.bind ?_ (fun _ => ?_)
theorem laws_FnExactFirstWhole.mono : ∀ a0 a1 k, LeO (laws_FnExactFirstWhole.f k a0 a1) (laws_FnExactFirstWhole.f (k + 1) a0 a1) := by
  intro a0 a1 k
  obtain ⟨ih0, ih1⟩ := laws_FnExactFirstWhole.mono_l k
  unfold laws_FnExactFirstWhole.f
  repeat' first
      | (with_reducible exact ih0 _ _ _ _ _ _)
      | (with_reducible exact ih1 _ _ _)
      | (with_reducible exact impl_FirstWhole.mono _ _ _)
      | (with_reducible exact laws_eqStringS.mono _ _ _)
      | (with_reducible exact laws_heldStringS.mono _ _ _)
      | (with_reducible exact laws_markStringS.mono _ _ _)
      | (with_reducible exact spec_FirstWhole.mono _ _ _)
      | (with_reducible exact LeO.refl _)
      | (with_reducible exact LeO.none _)
      | (with_reducible refine LeO.ite ?_ ?_)
      | (with_reducible refine LeO.bind ?_ (fun _ => ?_))
      | exact ih0 _ _ _ _ _ _
      | exact ih1 _ _ _
      | exact impl_FirstWhole.mono _ _ _
      | exact laws_eqStringS.mono _ _ _
      | exact laws_heldStringS.mono _ _ _
      | exact laws_markStringS.mono _ _ _
      | exact spec_FirstWhole.mono _ _ _
      | exact LeO.none _
      | refine LeO.ite ?_ ?_
      | refine LeO.bind ?_ (fun _ => ?_)
set_option maxHeartbeats 8000000 in
set_option maxRecDepth 100000 in
theorem laws_FnExactFirstWhole.calls (k : Nat) (a0_0 : Int) (a0_1 : Int) (r : Bool) (w : World) (h : laws_FnExactFirstWhole.f k a0_0 a0_1 = some r) (hr_ : r = true := by rfl) :
    Calls Try.prog 12 #[.agg #[.int .i64 a0_0, .int .i64 a0_1]] w fun e w' => e = .returned (.bool r) ∧ Below w.heap.size w w' := by
  have HRT := Aside0.mk hr_
  clear hr_
  have hu23 := Try.underlying23
  have HB := Aside0.mk (Below.refl w.heap.size w)
  have H : ((laws_toLock.f a0_0 a0_1).bind fun bt1034 => ((spec_FirstWhole.f k bt1034.1 bt1034.2).bind fun bt1036 => ((laws_toLock.f a0_0 a0_1).bind fun bt1040 => ((impl_FirstWhole.f k bt1040.1 bt1040.2).bind fun bt1042 => ((laws_eqStringS.f k bt1042.1 bt1036.1).bind fun t1046 => (if t1046 = true then (laws_FnExactFirstWhole.j0 k bt1036.1 bt1036.2 bt1042.1 (bt1042.2 != bt1036.2) a0_0 a0_1) else (laws_FnExactFirstWhole.j0 k bt1036.1 bt1036.2 bt1042.1 true a0_0 a0_1))))))) = some r := h
  clear h
  replace H := Option.bind_eq_some_iff.mp H
  obtain ⟨⟨t1034, t1035⟩, A20, H⟩ := H
  try dsimp only at H
  have A2 := Aside0.mk A20
  clear A20
  replace H := Option.bind_eq_some_iff.mp H
  obtain ⟨⟨t1036, t1039⟩, A30, H⟩ := H
  try dsimp only at H
  have A3 := Aside0.mk A30
  clear A30
  replace H := Option.bind_eq_some_iff.mp H
  obtain ⟨⟨t1040, t1041⟩, A40, H⟩ := H
  try dsimp only at H
  have A4 := Aside0.mk A40
  clear A40
  replace H := Option.bind_eq_some_iff.mp H
  obtain ⟨⟨t1042, t1045⟩, A50, H⟩ := H
  try dsimp only at H
  have A5 := Aside0.mk A50
  clear A50
  have HC6 := Aside0.mk H
  clear H
  go_enter Try.func12, Try.ntmps12
  go_upto_region 3 with (first | ((with_reducible refine gate_dst (N := 1) rfl ?_); refine box_event ?hg (N := 1) ?hd (cs := #[.int .i64 a0_0, .int .i64 a0_1]) (t := 23) ?hr ?_; (case hd => rfl); (case hg => rfl); (case hr => first | (go_simp; done) | (go_simp; rfl)); intro gb1033 hg w7 hbox hb; have n0_ := bsx hb HB; have n1_ := Aside0.mk (hbox); have n2_ := gwx hg HB; have n3_ := n2_; clear HB; have HB := n0_; have BK1033 := n1_; have GW1033 := n2_; have GE1033 := n3_; clear n0_ n1_ n2_ n3_; clear hb hbox hg; have hcz8_0 := cz0 BK1033; have hcz8_1 := cz1 BK1033; have hfz8_0 := blk_frozen BK1033.out 0; have hfz8_1 := blk_frozen BK1033.out 1) | ((with_reducible refine gate_callee (f := 16) rfl ?_); refine goesL_ (some 13) rfl rfl Try.func16 (by kernel_rfl) rfl #[.agg #[.int .i64 a0_0, .int .i64 a0_1]] rfl (by (try simp only [m_1, m_2, m_3]); first | done | rfl | (simp only [m_4, m_5]; rfl)) ?_; (with_reducible refine (laws_toLock.calls a0_0 a0_1 t1034 t1035 _ A2.out).mono ?_); rintro e w9 ⟨rfl, hb⟩; refine ⟨_, rfl, ?_⟩; replace BK1033 := bbx hb BK1033; replace HB := bsx hb HB; skip; (try clear hb); (try clear hb2); (try clear hk); (try clear hi)) | ((with_reducible refine gate_callee (f := 45) rfl ?_); refine goesL_ (some 14) rfl rfl Try.func45 (by kernel_rfl) rfl #[.agg #[.int .i64 t1034, .int .i64 t1035]] rfl (by (try simp only [m_1, m_2, m_3]); first | done | rfl | (simp only [m_4, m_5]; rfl)) ?_; (with_reducible refine (spec_FirstWhole.calls k t1034 t1035 t1036 t1039 _ A3.out).mono ?_); rintro e w10 ⟨v1037, rfl, ho0, hb⟩; refine ⟨_, rfl, ?_⟩; have n0_ := Aside0.mk (Kd.R_lower ho0 (below_size (bB HB))); replace BK1033 := bbx hb BK1033; have n2_ := bsx hb HB; clear HB; have HO1038 := n0_; have HB := n2_; clear n0_ n2_; (try clear hb); (try clear hb2); (try clear hk); (try clear hi); (try clear ho0); have hcz11_0 := cz0 BK1033; have hcz11_1 := cz1 BK1033; have hfz11_0 := blk_frozen BK1033.out 0; have hfz11_1 := blk_frozen BK1033.out 1) | ((with_reducible refine gate_callee (f := 16) rfl ?_); refine goesL_ (some 19) rfl rfl Try.func16 (by kernel_rfl) rfl #[.agg #[.int .i64 a0_0, .int .i64 a0_1]] rfl (by (try simp only [m_1, m_2, m_3]); first | done | rfl | (simp only [m_4, m_5]; rfl)) ?_; (with_reducible refine (laws_toLock.calls a0_0 a0_1 t1040 t1041 _ A4.out).mono ?_); rintro e w12 ⟨rfl, hb⟩; refine ⟨_, rfl, ?_⟩; have n0_ := Aside0.mk (Kd.R_below (by (with_reducible repeat (first | apply r_a | apply r_d | apply r_e)); exact HO1038.out) hb); replace BK1033 := bbx hb BK1033; replace HB := bsx hb HB; clear HO1038; have HO1038 := n0_; clear n0_; (try clear hb); (try clear hb2); (try clear hk); (try clear hi)) | ((with_reducible refine gate_callee (f := 46) rfl ?_); refine goesL_ (some 20) rfl rfl Try.func46 (by kernel_rfl) rfl #[.agg #[.int .i64 t1040, .int .i64 t1041]] rfl (by (try simp only [m_1, m_2, m_3]); first | done | rfl | (simp only [m_4, m_5]; rfl)) ?_; (with_reducible refine (impl_FirstWhole.calls k t1040 t1041 t1042 t1045 _ A5.out).mono ?_); rintro e w13 ⟨v1043, rfl, ho0, hb⟩; refine ⟨_, rfl, ?_⟩; have n0_ := Aside0.mk (Kd.R_elder' (by (with_reducible repeat (first | apply r_a | apply r_d | apply r_e)); exact HO1038.out) (Kd.R_base ho0) hb); have n1_ := Aside0.mk (Kd.R_lower (Kd.R_new' ho0 (Kd.R_lt (by (with_reducible repeat (first | apply r_a | apply r_d | apply r_e)); exact HO1038.out))) (below_size (bB HB))); replace BK1033 := bbx hb BK1033; have n3_ := bsx hb HB; clear HO1038; clear HB; have HO1038 := n0_; have HO1044 := n1_; have HB := n3_; clear n0_ n1_ n3_; (try clear hb); (try clear hb2); (try clear hk); (try clear hi); (try clear ho0)))
  (try simp only [Act.put, s_1, s_2, s_3])
  go_cut [31] from 1 to 0 (fun v31 wc => ∃ (kq : Nat) (x31_5 : Bool), v31 = .bool x31_5 ∧ Aside0 (laws_FnExactFirstWhole.j0 kq t1036 t1039 t1042 x31_5 a0_0 a0_1 = some r) ∧ Aside0 (kq ≤ k) ∧ Aside0 (Kd.R Kd.string 9 wc w.heap.size (fun k_ => some k_ ≠ (v1043 : Value).ownBlock) v1037 t1036) ∧ Aside0 (Kd.R Kd.string 9 wc w.heap.size (fun k_ => some k_ ≠ (v1037 : Value).ownBlock) v1043 t1042) ∧ Aside0 (wc.heap[gb1033]? = some (.cells #[.int .i64 a0_0, .int .i64 a0_1] 23 (0, 0))) ∧ Aside0 (Below w.heap.size w wc))
  case first => as_aux_lemma =>
    have H := HC6.out
    clear HC6
    replace H := Option.bind_eq_some_iff.mp H
    obtain ⟨t1046, A140, H⟩ := H
    try dsimp only at H
    have A14 := Aside0.mk A140
    clear A140
    by_cases c15 : t1046 = true
    rotate_left
    · replace c15 := Bool.eq_false_iff.mpr c15
      subst c15
      rw [if_neg (show ¬ (false = true) by decide)] at H
      rw [HRT.out] at H
      exact absurd H (by generalize k = q_; cases q_ <;> simp [laws_FnExactFirstWhole.j0])
    subst c15
    rw [if_pos rfl] at H
    have H' := Aside0.mk H
    clear H
    obtain ⟨Ao16, co16, eo16⟩ := Kd.R_slice HO1044.out
    subst eo16
    obtain ⟨Ao17, co17, eo17⟩ := Kd.R_slice HO1038.out
    subst eo17
    go_wp2_with (first | ((with_reducible refine gate_callee (f := 19) rfl ?_); refine goesL_ (some 25) rfl rfl Try.func19 (by kernel_rfl) rfl #[.slice Ao16 t1042.length co16, .slice Ao17 t1036.length co17] rfl (by (try simp only [m_1, m_2, m_3]); first | done | rfl | (simp only [m_4, m_5]; rfl)) ?_; (with_reducible refine (laws_eqStringS.calls k _ _ t1042 _ _ t1036 true _ ?side1 ?side2 ?side3 ?side4 A14.out).mono ?_); (case side1 => repeat (first | exact (Kd.R_reads' HO1044.out).2.2 | (with_reducible refine Kd.C_alloc ?_ _) | (with_reducible refine Kd.C_drewN ?_ _) | (with_reducible refine Kd.C_drew ?_))); (case side2 => exact (Kd.R_reads' HO1044.out).2.1); (case side3 => repeat (first | exact (Kd.R_reads' HO1038.out).2.2 | (with_reducible refine Kd.C_alloc ?_ _) | (with_reducible refine Kd.C_drewN ?_ _) | (with_reducible refine Kd.C_drew ?_))); (case side4 => exact (Kd.R_reads' HO1038.out).2.1); rintro e w' ⟨rfl, ⟨nd, rfl⟩⟩; refine ⟨_, rfl, ?_⟩))
    go_meet
    case rel => exact ⟨_, ((t1045 != t1039)), (by first | rfl | (simp; done) | (simp [*]; done)), H', ⟨by first | omega | exact Nat.le_refl _⟩, ⟨by (with_reducible repeat (first | apply r_a | apply r_d | apply r_e)); exact Kd.R_mono HO1038.out (fun _ hk => hk.2)⟩, ⟨by (with_reducible repeat (first | apply r_a | apply r_d | apply r_e)); exact Kd.R_mono HO1044.out (fun _ hk => hk.2)⟩, ⟨bK BK1033⟩, ⟨bB HB⟩⟩
  clear HC6
  try clear hcz11_0
  try clear hcz11_1
  try clear hcz8_0
  try clear hcz8_1
  try clear hfz11_0
  try clear hfz11_1
  try clear hfz8_0
  try clear hfz8_1
  obtain ⟨kq, x31_5, rfl, HA, HJ5, HO_3, HO_5, BK1033, HB⟩ := hcut
  rcases kq with _ | kj5
  · exact absurd HA.out (by simp [laws_FnExactFirstWhole.j0])
  have H := HA.out
  clear HA
  simp only [laws_FnExactFirstWhole.j0] at H
  by_cases c18 : x31_5 = true
  · subst c18
    rw [if_pos rfl] at H
    rw [HRT.out] at H
    exact absurd H (by simp)
  replace c18 := Bool.eq_false_iff.mpr c18
  subst c18
  rw [if_neg (show ¬ (false = true) by decide)] at H
  replace H := Option.bind_eq_some_iff.mp H
  obtain ⟨⟨t1047, t1048⟩, A190, H⟩ := H
  try dsimp only at H
  have A19 := Aside0.mk A190
  clear A190
  replace H := Option.bind_eq_some_iff.mp H
  obtain ⟨t1049, A200, H⟩ := H
  try dsimp only at H
  have A20 := Aside0.mk A200
  clear A200
  by_cases c21 : t1049 < 0
  · rw [if_pos c21] at H
    have c21b0 : decide (t1049 < 0) = true := decide_eq_true c21
    clear c21
    rw [HRT.out] at H
    exact absurd H (by simp)
  rw [if_neg c21] at H
  have c21b0 : decide (t1049 < 0) = false := decide_eq_false c21
  clear c21
  by_cases c22 : t1049 = t1047
  rotate_left
  · rw [if_neg c22] at H
    have c22b0 : (t1049 == t1047) = false := beq_eq_false_iff_ne.mpr c22
    have c22b1 : (t1049 != t1047) = true := bne_iff_ne.mpr c22
    rw [HRT.out] at H
    exact absurd H (by simp)

  rw [if_pos c22] at H
  have c22b0 : (t1049 == t1047) = true := beq_iff_eq.mpr c22
  have c22b1 : (t1049 != t1047) = false := bne_eq_false_iff_eq.mpr c22
  clear c22
  replace H := Option.bind_eq_some_iff.mp H
  obtain ⟨⟨t1050, t1051⟩, A230, H⟩ := H
  try dsimp only at H
  have A23 := Aside0.mk A230
  clear A230
  replace H := Option.bind_eq_some_iff.mp H
  obtain ⟨⟨t1052, t1055⟩, A240, H⟩ := H
  try dsimp only at H
  have A24 := Aside0.mk A240
  clear A240
  have HC25 := Aside0.mk H
  clear H
  obtain ⟨Ao26, co26, eo26⟩ := Kd.R_slice HO_5.out
  subst eo26
  go_upto_region 14 with (first | ((with_reducible refine gate_callee (f := 27) rfl ?_); refine goesL_ (some 34) rfl rfl Try.func27 (by kernel_rfl) rfl #[.slice Ao26 t1042.length co26, .int .i64 1] rfl (by (try simp only [m_1, m_2, m_3]); first | done | rfl | (simp only [m_4, m_5]; rfl)) ?_; (with_reducible refine (laws_markStringS.calls kj5 (fun k_ => some k_ = (.slice Ao26 t1042.length co26 : Value).ownBlock) (.slice Ao26 t1042.length co26) t1042 1 t1047 t1048 w _ ?side1 ?side2 A19.out).mono ?_); (case side1 => exact bB HB); (case side2 => exact Kd.R_tight rfl HO_5.out); rintro e w27 ⟨rfl, hy0, hb, hkp⟩; refine ⟨_, rfl, ?_⟩; have n0_ := Aside0.mk (Kd.R_mono (ok' := fun k_ => some k_ ≠ (.slice Ao26 t1042.length co26 : Value).ownBlock) (Kd.R_keptB (HO_3.out) hkp (fun k_ hk_ hs_ => (hk_) hs_)) (fun k_ hk_ => hk_.1)); have n1_ := Aside0.mk (Kd.R_reok rfl hy0 (fun k_ e_ => HO_5.out.1 k_ e_)); have n2_ := Aside0.mk (blk_kept (bK BK1033) hkp (fun hs_ => (fun e_ => (Kd.R_ne HO_5.out BK1033.out (by decide)) e_) hs_)); have n3_ := Aside0.mk (hb); clear HO_3; clear HO_5; clear BK1033; clear HB; have HO_3 := n0_; have HO_5 := n1_; have BK1033 := n2_; have HB := n3_; clear n0_ n1_ n2_ n3_; (try clear hb); (try clear hkp); (try clear hy0)) | ((with_reducible refine gate_callee (f := 38) rfl ?_); refine goesL_ (some 37) rfl rfl Try.func38 (by kernel_rfl) rfl #[.slice Ao26 t1048.length co26, .int .i64 1] rfl (by (try simp only [m_1, m_2, m_3]); first | done | (rw [show t1048.length = t1042.length from (Kd.R_reads' HO_5.out).1.symm] <;> rfl) | rfl | (simp only [m_4, m_5]; rfl)) ?_; (with_reducible refine (laws_heldStringS.calls kj5 _ _ t1048 1 t1049 _ ?side1 ?side2 A20.out).mono ?_); (case side1 => repeat (first | exact (Kd.R_reads' HO_5.out).2.2 | (with_reducible refine Kd.C_alloc ?_ _) | (with_reducible refine Kd.C_drewN ?_ _) | (with_reducible refine Kd.C_drew ?_))); (case side2 => rw [show t1048.length = t1042.length from (Kd.R_reads' HO_5.out).1.symm]; exact (Kd.R_reads' HO_5.out).2.1); rintro e w28 ⟨rfl, hb⟩; refine ⟨_, rfl, ?_⟩; have n0_ := Aside0.mk (Kd.R_below (by (with_reducible repeat (first | apply r_a | apply r_d | apply r_e)); exact HO_3.out) hb); have n1_ := Aside0.mk (Kd.R_below (by (with_reducible repeat (first | apply r_a | apply r_d | apply r_e)); exact HO_5.out) hb); replace BK1033 := bbx hb BK1033; replace HB := bsx hb HB; clear HO_3; clear HO_5; have HO_3 := n0_; have HO_5 := n1_; clear n0_ n1_; (try clear hb); (try clear hb2); (try clear hk); (try clear hi); have hcz29_0 := cz0 BK1033; have hcz29_1 := cz1 BK1033; have hfz29_0 := blk_frozen BK1033.out 0; have hfz29_1 := blk_frozen BK1033.out 1) | ((with_reducible refine gate_callee (f := 16) rfl ?_); refine goesL_ (some 45) rfl rfl Try.func16 (by kernel_rfl) rfl #[.agg #[.int .i64 a0_0, .int .i64 a0_1]] rfl (by (try simp only [m_1, m_2, m_3]); first | done | rfl | (simp only [m_4, m_5]; rfl)) ?_; (with_reducible refine (laws_toLock.calls a0_0 a0_1 t1050 t1051 _ A23.out).mono ?_); rintro e w30 ⟨rfl, hb⟩; refine ⟨_, rfl, ?_⟩; have n0_ := Aside0.mk (Kd.R_below (by (with_reducible repeat (first | apply r_a | apply r_d | apply r_e)); exact HO_3.out) hb); have n1_ := Aside0.mk (Kd.R_below (by (with_reducible repeat (first | apply r_a | apply r_d | apply r_e)); exact HO_5.out) hb); replace BK1033 := bbx hb BK1033; replace HB := bsx hb HB; clear HO_3; clear HO_5; have HO_3 := n0_; have HO_5 := n1_; clear n0_ n1_; (try clear hb); (try clear hb2); (try clear hk); (try clear hi)) | ((with_reducible refine gate_callee (f := 46) rfl ?_); refine goesL_ (some 46) rfl rfl Try.func46 (by kernel_rfl) rfl #[.agg #[.int .i64 t1050, .int .i64 t1051]] rfl (by (try simp only [m_1, m_2, m_3]); first | done | rfl | (simp only [m_4, m_5]; rfl)) ?_; (with_reducible refine (impl_FirstWhole.calls kj5 t1050 t1051 t1052 t1055 _ A24.out).mono ?_); rintro e w31 ⟨v1053, rfl, ho0, hb⟩; refine ⟨_, rfl, ?_⟩; have n0_ := Aside0.mk (Kd.R_elder' (by (with_reducible repeat (first | apply r_a | apply r_d | apply r_e)); exact HO_3.out) (Kd.R_base ho0) hb); have n1_ := Aside0.mk (Kd.R_elder' (by (with_reducible repeat (first | apply r_a | apply r_d | apply r_e)); exact HO_5.out) (Kd.R_base ho0) hb); have n2_ := Aside0.mk (Kd.R_lower (Kd.R_new' (Kd.R_new' ho0 (Kd.R_lt (by (with_reducible repeat (first | apply r_a | apply r_d | apply r_e)); exact HO_3.out))) (Kd.R_lt (by (with_reducible repeat (first | apply r_a | apply r_d | apply r_e)); exact HO_5.out))) (below_size (bB HB))); replace BK1033 := bbx hb BK1033; have n4_ := bsx hb HB; clear HO_3; clear HO_5; clear HB; have HO_3 := n0_; have HO_5 := n1_; have HO1054 := n2_; have HB := n4_; clear n0_ n1_ n2_ n4_; (try clear hb); (try clear hb2); (try clear hk); (try clear hi); (try clear ho0)))
  (try simp only [Act.put, s_1, s_2, s_3])
  go_cut [57] from 1 to 0 (fun v57 wc => ∃ (kq : Nat) (x57_24 : Bool), v57 = .bool x57_24 ∧ Aside0 (laws_FnExactFirstWhole.j1 kq t1048 t1047 x57_24 = some r) ∧ Aside0 (kq ≤ kj5) ∧ Aside0 (Kd.R Kd.string 9 wc w.heap.size (fun _ => True) (.slice Ao26 t1042.length co26) t1048) ∧ Aside0 (wc.heap[gb1033]? = some (.cells #[.int .i64 a0_0, .int .i64 a0_1] 23 (0, 0))) ∧ Aside0 (Below w.heap.size w wc))
  case first => as_aux_lemma =>
    have H := HC25.out
    clear HC25
    replace H := Option.bind_eq_some_iff.mp H
    obtain ⟨t1056, A320, H⟩ := H
    try dsimp only at H
    have A32 := Aside0.mk A320
    clear A320
    by_cases c33 : t1056 = true
    rotate_left
    · replace c33 := Bool.eq_false_iff.mpr c33
      subst c33
      rw [if_neg (show ¬ (false = true) by decide)] at H
      rw [HRT.out] at H
      exact absurd H (by generalize kj5 = q_; cases q_ <;> simp [laws_FnExactFirstWhole.j1])
    subst c33
    rw [if_pos rfl] at H
    have H' := Aside0.mk H
    clear H
    obtain ⟨Ao34, co34, eo34⟩ := Kd.R_slice HO1054.out
    subst eo34
    obtain ⟨Ao35, co35, eo35⟩ := Kd.R_slice HO_3.out
    subst eo35
    go_wp2_with (first | ((with_reducible refine gate_callee (f := 19) rfl ?_); refine goesL_ (some 51) rfl rfl Try.func19 (by kernel_rfl) rfl #[.slice Ao34 t1052.length co34, .slice Ao35 t1036.length co35] rfl (by (try simp only [m_1, m_2, m_3]); first | done | rfl | (simp only [m_4, m_5]; rfl)) ?_; (with_reducible refine (laws_eqStringS.calls kj5 _ _ t1052 _ _ t1036 true _ ?side1 ?side2 ?side3 ?side4 A32.out).mono ?_); (case side1 => repeat (first | exact (Kd.R_reads' HO1054.out).2.2 | (with_reducible refine Kd.C_alloc ?_ _) | (with_reducible refine Kd.C_drewN ?_ _) | (with_reducible refine Kd.C_drew ?_))); (case side2 => exact (Kd.R_reads' HO1054.out).2.1); (case side3 => repeat (first | exact (Kd.R_reads' HO_3.out).2.2 | (with_reducible refine Kd.C_alloc ?_ _) | (with_reducible refine Kd.C_drewN ?_ _) | (with_reducible refine Kd.C_drew ?_))); (case side4 => exact (Kd.R_reads' HO_3.out).2.1); rintro e w' ⟨rfl, ⟨nd, rfl⟩⟩; refine ⟨_, rfl, ?_⟩))
    go_meet
    case rel => exact ⟨_, ((t1055 != t1039)), (by first | rfl | (simp; done) | (simp [*]; done)), H', ⟨by have := HJ5.out; first | omega | exact Nat.le_refl _⟩, ⟨by (with_reducible repeat (first | apply r_a | apply r_d | apply r_e)); exact Kd.R_mono HO_5.out (fun _ hk => trivial)⟩, ⟨bK BK1033⟩, ⟨bB HB⟩⟩
  clear HC25
  try clear c18
  try clear c21
  try clear c21b0
  try clear c22
  try clear c22b0
  try clear c22b1
  try clear hcz29_0
  try clear hcz29_1
  try clear hfz29_0
  try clear hfz29_1
  obtain ⟨kq, x57_24, rfl, HA, HJ24, HO_5, BK1033, HB⟩ := hcut
  have hl5_24 := (Kd.R_reads' HO_5.out).1
  rw [hl5_24] at HO_5
  (try simp only [hl5_24])
  (try simp only [hl5_24] at BK1033)
  rcases kq with _ | kj24
  · exact absurd HA.out (by simp [laws_FnExactFirstWhole.j1])
  have H := HA.out
  clear HA
  simp only [laws_FnExactFirstWhole.j1] at H
  by_cases c36 : x57_24 = true
  · subst c36
    rw [if_pos rfl] at H
    rw [HRT.out] at H
    exact absurd H (by simp)
  replace c36 := Bool.eq_false_iff.mpr c36
  subst c36
  rw [if_neg (show ¬ (false = true) by decide)] at H
  replace H := Option.bind_eq_some_iff.mp H
  obtain ⟨t1057, A370, H⟩ := H
  try dsimp only at H
  have A37 := Aside0.mk A370
  clear A370
  by_cases c38 : t1057 < 0
  · rw [if_pos c38] at H
    have c38b0 : decide (t1057 < 0) = true := decide_eq_true c38
    clear c38
    rw [HRT.out] at H
    exact absurd H (by simp)
  rw [if_neg c38] at H
  have c38b0 : decide (t1057 < 0) = false := decide_eq_false c38
  clear c38
  by_cases c39 : t1057 = t1047
  rotate_left
  · rw [if_neg c39] at H
    have c39b0 : (t1057 == t1047) = false := beq_eq_false_iff_ne.mpr c39
    have c39b1 : (t1057 != t1047) = true := bne_iff_ne.mpr c39
    rw [HRT.out] at H
    exact absurd H (by simp)
  rw [if_pos c39] at H
  have c39b0 : (t1057 == t1047) = true := beq_iff_eq.mpr c39
  have c39b1 : (t1057 != t1047) = false := bne_eq_false_iff_eq.mpr c39
  clear c39
  obtain rfl := Option.some.inj H
  go_wp2_with (first | ((with_reducible refine gate_callee (f := 38) rfl ?_); refine goesL_ (some 60) rfl rfl Try.func38 (by kernel_rfl) rfl #[.slice Ao26 t1048.length co26, .int .i64 1] rfl (by (try simp only [m_1, m_2, m_3]); first | done | rfl | (simp only [m_4, m_5]; rfl)) ?_; (with_reducible refine (laws_heldStringS.calls kj24 _ _ t1048 1 t1057 _ ?side1 ?side2 A37.out).mono ?_); (case side1 => repeat (first | exact (Kd.R_reads' HO_5.out).2.2 | (with_reducible refine Kd.C_alloc ?_ _) | (with_reducible refine Kd.C_drewN ?_ _) | (with_reducible refine Kd.C_drew ?_))); (case side2 => exact (Kd.R_reads' HO_5.out).2.1); rintro e w40 ⟨rfl, hb⟩; refine ⟨_, rfl, ?_⟩; have n0_ := Aside0.mk (Kd.R_below (by (with_reducible repeat (first | apply r_a | apply r_d | apply r_e)); exact HO_5.out) hb); replace BK1033 := bbx hb BK1033; replace HB := bsx hb HB; clear HO_5; have HO_5 := n0_; clear n0_; (try clear hb); (try clear hb2); (try clear hk); (try clear hi)))
  go_ret
  exact ⟨by first | rfl | (simp [errW_none, errW_some] <;> rfl) | (simp [*, errW_none, errW_some] <;> rfl), bB HB⟩
end Go.Proofs.Ytihhiolflbieaaa.P
