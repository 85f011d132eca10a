-- Texts of this session's own program (wip/dr.py), which runs the kit's printer.
import Derived.Test.YtiacdekbleebjaaPx0
import Derived.Test.YtiacdekbleebjaaPx4
import Derived.Test.YtiacdekbleebjaaPx20
import Derived.Test.YtiacdekbleebjaaPx31
import Derived.Test.YtiacdekbleebjaaPx46
namespace Go.Proofs.Ytiacdekbleebjaa.P
open Go.RowKit Go.Proofs.YtiacdekbleebjaaW.PrintWords Go.Proofs.YtiacdekbleebjaaW.PrintLast Go.Proofs.YtiacdekbleebjaaW.PrintMore
attribute [local go_sem] max2_int min2_int max_two min_two max_three min_three max_four min_four   -- for this text's walks alone
set_option linter.unusedVariables false
set_option linter.unusedSimpArgs false

/-! ### impl_FewestKnobs: function 15 -/
def impl_FewestKnobs.f (k : Nat) (a0_0 : Int) (a0_1 : Int) (l0_2 : List (List Int)) (a1 : ByteArray) (a2 : ByteArray) : Option (Int × Bool) := (impl_FirstKnobs.f k a0_0 a0_1 l0_2 a1 a2).bind fun bt407 => (some ((bt407.1.length : Int), bt407.2))
theorem impl_FewestKnobs.mono : ∀ a0 a1 a2 a3 a4 k, LeO (impl_FewestKnobs.f k a0 a1 a2 a3 a4) (impl_FewestKnobs.f (k + 1) a0 a1 a2 a3 a4) := by
  intro a0 a1 a2 a3 a4 k
  unfold impl_FewestKnobs.f
  repeat' first
      | (with_reducible exact impl_FirstKnobs.mono _ _ _ _ _ _)
      | (with_reducible exact LeO.refl _)
      | (with_reducible exact LeO.none _)
      | (with_reducible refine LeO.ite ?_ ?_)
      | (with_reducible refine LeO.bind ?_ (fun _ => ?_))
      | exact impl_FirstKnobs.mono _ _ _ _ _ _
      | exact LeO.none _
      | refine LeO.ite ?_ ?_
      | refine LeO.bind ?_ (fun _ => ?_)
set_option maxHeartbeats 8000000 in
set_option maxRecDepth 100000 in
theorem impl_FewestKnobs.calls (k : Nat) (a0_0 : Int) (a0_1 : Int) (A0_2 : Option Addr) (c0_2 : Nat) (l0_2 : List (List Int)) (a1 : ByteArray) (a2 : ByteArray) (r1 : Int) (r2 : Bool) (w : World) (hr0_2 : Kd.C (Kd.slice 3 (Kd.int .i64)) w A0_2 l0_2.length l0_2) (hc0_2 : l0_2.length ≤ c0_2) (h : impl_FewestKnobs.f k a0_0 a0_1 l0_2 a1 a2 = some (r1, r2)) :
    Calls Try.prog 15 #[.agg #[.int .i64 a0_0, .int .i64 a0_1, .slice A0_2 l0_2.length c0_2], .string a1, .string a2] w fun e w' => e = .returned (.tuple #[.int .i64 r1, .bool r2]) ∧ Below w.heap.size w w' := by
  have hu33 := Try.underlying33
  have HR0_2 := Aside0.mk hr0_2
  have HC0_2 := Aside0.mk hc0_2
  clear hr0_2 hc0_2
  have HB := Aside0.mk (Below.refl w.heap.size w)
  have H : ((impl_FirstKnobs.f k a0_0 a0_1 l0_2 a1 a2).bind fun bt407 => (some ((bt407.1.length : Int), bt407.2))) = some (r1, r2) := h
  clear h
  replace H := Option.bind_eq_some_iff.mp H
  obtain ⟨⟨t407, t410⟩, A40, H⟩ := H
  try dsimp only at H
  have A4 := Aside0.mk A40
  clear A40
  simp only [Option.some.injEq, Prod.mk.injEq] at H
  obtain ⟨rfl, rfl⟩ := H
  go_enter Try.func15, Try.ntmps15
  go_wp2_with (first | ((with_reducible refine gate_dst (N := 3) rfl ?_); refine box_event ?hg (N := 3) ?hd (cs := #[.int .i64 a0_0, .int .i64 a0_1, .slice A0_2 l0_2.length c0_2]) (t := 33) ?hr ?_; (case hd => rfl); (case hg => rfl); (case hr => first | (go_simp; done) | (go_simp; rfl)); intro gb406 hg w5 hbox hb; have n0_ := bsx hb HB; have n1_ := Aside0.mk (hbox); have n2_ := gwx hg HB; have n3_ := n2_; clear HB; have HB := n0_; have BK406 := n1_; have GW406 := n2_; have GE406 := n3_; clear n0_ n1_ n2_ n3_; clear hb hbox hg; have hcz6_0 : w5.cell? ⟨gb406, 0, none⟩ = some (.int .i64 a0_0) := (blk_cell BK406.out 0).trans rfl; have hcz6_1 : w5.cell? ⟨gb406, 1, none⟩ = some (.int .i64 a0_1) := (blk_cell BK406.out 1).trans rfl; have hcz6_2 : w5.cell? ⟨gb406, 2, none⟩ = some (.slice A0_2 l0_2.length c0_2) := (blk_cell BK406.out 2).trans rfl; have hfz6_0 := blk_frozen BK406.out 0; have hfz6_1 := blk_frozen BK406.out 1; have hfz6_2 := blk_frozen BK406.out 2) | ((with_reducible refine gate_callee (f := 9) rfl ?_); refine goesL_ (some 14) rfl rfl Try.func9 (by kernel_rfl) rfl #[.agg #[.int .i64 a0_0, .int .i64 a0_1, .slice A0_2 l0_2.length c0_2], .string a1, .string a2] rfl (by (try simp only [m_1, m_2, m_3]); first | done | rfl | (simp only [m_4, m_5]; rfl)) ?_; (with_reducible refine (impl_FirstKnobs.calls k a0_0 a0_1 _ _ l0_2 a1 a2 t407 t410 _ ?side1 ?side2 A4.out).mono ?_); (case side1 => repeat (first | exact (Kd.C_below HR0_2.out HB.out) | (with_reducible refine Kd.C_alloc ?_ _) | (with_reducible refine Kd.C_drewN ?_ _) | (with_reducible refine Kd.C_drew ?_))); (case side2 => exact HC0_2.out); rintro e w7 ⟨v408, rfl, ho0, hb⟩; refine ⟨_, rfl, ?_⟩; have n0_ := Aside0.mk (Kd.R_lower ho0 (below_size (bB HB))); replace BK406 := bbx hb BK406; have n2_ := bsx hb HB; clear HB; have HO409 := n0_; have HB := n2_; clear n0_ n2_; (try clear hb); (try clear hb2); (try clear hk); (try clear hi); (try clear ho0); obtain ⟨Ao8, co8, eo8⟩ := Kd.R_slice HO409.out; subst eo8))
  go_ret2
  exact ⟨by first | rfl | (simp [errW_none, errW_some] <;> rfl) | (simp [*, errW_none, errW_some] <;> rfl), bB HB⟩

/-! ### spec_FewestKnobs: function 16 -/
def spec_FewestKnobs.f (k : Nat) (a0_0 : Int) (a0_1 : Int) (l0_2 : List (List Int)) (a1 : ByteArray) (a2 : ByteArray) : Option (Int × Bool) := (spec_joTwo.f k a0_0 a0_1 l0_2 a1 a2).bind fun t412 => (if t412 = true then ((spec_joFar.f k a0_0 a0_1 l0_2 a1).bind fun t413 => ((spec_whNumber.f k a0_0 a0_1 a2).bind fun t416 => (if 0 ≤ t416 then (if t416 < (t413.length : Int) then (if (rd t413 t416) < 0 then (some (0, false)) else (some (rd t413 t416, true))) else (none)) else (none)))) else (some (0, false)))
theorem spec_FewestKnobs.mono : ∀ a0 a1 a2 a3 a4 k, LeO (spec_FewestKnobs.f k a0 a1 a2 a3 a4) (spec_FewestKnobs.f (k + 1) a0 a1 a2 a3 a4) := by
  intro a0 a1 a2 a3 a4 k
  unfold spec_FewestKnobs.f
  repeat' first
      | (with_reducible exact spec_joFar.mono _ _ _ _ _)
      | (with_reducible exact spec_joTwo.mono _ _ _ _ _ _)
      | (with_reducible exact spec_whNumber.mono _ _ _ _)
      | (with_reducible exact LeO.refl _)
      | (with_reducible exact LeO.none _)
      | (with_reducible refine LeO.ite ?_ ?_)
      | (with_reducible refine LeO.bind ?_ (fun _ => ?_))
      | exact spec_joFar.mono _ _ _ _ _
      | exact spec_joTwo.mono _ _ _ _ _ _
      | exact spec_whNumber.mono _ _ _ _
      | exact LeO.none _
      | refine LeO.ite ?_ ?_
      | refine LeO.bind ?_ (fun _ => ?_)
def spec_FewestKnobs.T3 : Bool × List (List Nat × List Nat) := (true, [([], []), ([], []), ([0, 1], [0, 1]), ([], []), ([3], [3]), ([], []), ([4, 5, 2], [4, 5]), ([2, 6], [2, 6]), ([7], [7]), ([8, 6, 0, 1, 2, 3, 4, 5, 6, 7, 8], [8])])
def spec_FewestKnobs.B3 : List Nat := [0, 0, 3, 0, 8, 0, 63, 127, 255, 511]
theorem spec_FewestKnobs.tab3 : rtab .any (opsOf Try.f16 3) = spec_FewestKnobs.T3 := by kernel_rfl
theorem spec_FewestKnobs.bits3 : waitsOk spec_FewestKnobs.T3.2 spec_FewestKnobs.B3 = true := by kernel_rfl
set_option maxHeartbeats 8000000 in
set_option maxRecDepth 100000 in
theorem spec_FewestKnobs.calls (k : Nat) (a0_0 : Int) (a0_1 : Int) (A0_2 : Option Addr) (c0_2 : Nat) (l0_2 : List (List Int)) (a1 : ByteArray) (a2 : ByteArray) (r1 : Int) (r2 : Bool) (w : World) (hr0_2 : Kd.C (Kd.slice 3 (Kd.int .i64)) w A0_2 l0_2.length l0_2) (hc0_2 : l0_2.length ≤ c0_2) (h : spec_FewestKnobs.f k a0_0 a0_1 l0_2 a1 a2 = some (r1, r2)) :
    Calls Try.prog 16 #[.agg #[.int .i64 a0_0, .int .i64 a0_1, .slice A0_2 l0_2.length c0_2], .string a1, .string a2] w fun e w' => e = .returned (.tuple #[.int .i64 r1, .bool r2]) ∧ Below w.heap.size w w' := by
  have hu33 := Try.underlying33
  have hu31 := Try.underlying31
  have HR0_2 := Aside0.mk hr0_2
  have HC0_2 := Aside0.mk hc0_2
  clear hr0_2 hc0_2
  have HB := Aside0.mk (Below.refl w.heap.size w)
  have H : ((spec_joTwo.f k a0_0 a0_1 l0_2 a1 a2).bind fun t412 => (if t412 = true then ((spec_joFar.f k a0_0 a0_1 l0_2 a1).bind fun t413 => ((spec_whNumber.f k a0_0 a0_1 a2).bind fun t416 => (if 0 ≤ t416 then (if t416 < (t413.length : Int) then (if (rd t413 t416) < 0 then (some (0, false)) else (some (rd t413 t416, true))) else (none)) else (none)))) else (some (0, false)))) = some (r1, r2) := h
  clear h
  replace H := Option.bind_eq_some_iff.mp H
  obtain ⟨t412, A40, H⟩ := H
  try dsimp only at H
  have A4 := Aside0.mk A40
  clear A40
  by_cases c5 : t412 = true
  rotate_left
  · replace c5 := Bool.eq_false_iff.mpr c5
    subst c5
    rw [if_neg (show ¬ (false = true) by decide)] at H
    simp only [Option.some.injEq, Prod.mk.injEq] at H
    obtain ⟨rfl, rfl⟩ := H
    go_enter Try.func16, Try.ntmps16
    go_wp2_with (first | ((with_reducible refine gate_dst (N := 3) rfl ?_); refine box_event ?hg (N := 3) ?hd (cs := #[.int .i64 a0_0, .int .i64 a0_1, .slice A0_2 l0_2.length c0_2]) (t := 33) ?hr ?_; (case hd => rfl); (case hg => rfl); (case hr => first | (go_simp; done) | (go_simp; rfl)); intro gb411 hg w25 hbox hb; have n0_ := bsx hb HB; have n1_ := Aside0.mk (hbox); have n2_ := gwx hg HB; have n3_ := n2_; clear HB; have HB := n0_; have BK411 := n1_; have GW411 := n2_; have GE411 := n3_; clear n0_ n1_ n2_ n3_; clear hb hbox hg; have hcz26_0 : w25.cell? ⟨gb411, 0, none⟩ = some (.int .i64 a0_0) := (blk_cell BK411.out 0).trans rfl; have hcz26_1 : w25.cell? ⟨gb411, 1, none⟩ = some (.int .i64 a0_1) := (blk_cell BK411.out 1).trans rfl; have hcz26_2 : w25.cell? ⟨gb411, 2, none⟩ = some (.slice A0_2 l0_2.length c0_2) := (blk_cell BK411.out 2).trans rfl; have hfz26_0 := blk_frozen BK411.out 0; have hfz26_1 := blk_frozen BK411.out 1; have hfz26_2 := blk_frozen BK411.out 2) | ((with_reducible refine gate_callee (f := 34) rfl ?_); refine goesL_ (some 12) rfl rfl Try.func34 (by kernel_rfl) rfl #[.agg #[.int .i64 a0_0, .int .i64 a0_1, .slice A0_2 l0_2.length c0_2], .string a1, .string a2] rfl (by (try simp only [m_1, m_2, m_3]); first | done | rfl | (simp only [m_4, m_5]; rfl)) ?_; (with_reducible refine (spec_joTwo.calls k a0_0 a0_1 _ _ l0_2 a1 a2 false _ ?side1 ?side2 A4.out).mono ?_); (case side1 => repeat (first | exact (Kd.C_below HR0_2.out HB.out) | (with_reducible refine Kd.C_alloc ?_ _) | (with_reducible refine Kd.C_drewN ?_ _) | (with_reducible refine Kd.C_drew ?_))); (case side2 => exact HC0_2.out); rintro e w27 ⟨rfl, hb⟩; refine ⟨_, rfl, ?_⟩; replace BK411 := bbx hb BK411; replace HB := bsx hb HB; skip; (try clear hb); (try clear hb2); (try clear hk); (try clear hi)))
    go_ret2
    exact ⟨by first | rfl | (simp [errW_none, errW_some] <;> rfl) | (simp [*, errW_none, errW_some] <;> rfl), bB HB⟩

  subst c5
  rw [if_pos rfl] at H
  replace H := Option.bind_eq_some_iff.mp H
  obtain ⟨t413, A60, H⟩ := H
  try dsimp only at H
  have A6 := Aside0.mk A60
  clear A60
  replace H := Option.bind_eq_some_iff.mp H
  obtain ⟨t416, A70, H⟩ := H
  try dsimp only at H
  have A7 := Aside0.mk A70
  clear A70
  by_cases c8 : 0 ≤ t416
  rotate_left
  · rw [if_neg c8] at H
    exact absurd H (by simp)
  rw [if_pos c8] at H
  have c8b0 : decide (0 ≤ t416) = true := decide_eq_true c8
  clear c8
  by_cases c9 : t416 < (t413.length : Int)
  rotate_left
  · rw [if_neg c9] at H
    exact absurd H (by simp)
  rw [if_pos c9] at H
  have c9b0 : decide (t416 < (t413.length : Int)) = true := decide_eq_true c9
  clear c9
  by_cases c10 : (rd t413 t416) < 0
  rotate_left
  · rw [if_neg c10] at H
    have c10b0 : decide ((rd t413 t416) < 0) = false := decide_eq_false c10
    clear c10
    simp only [Option.some.injEq, Prod.mk.injEq] at H
    obtain ⟨rfl, rfl⟩ := H
    go_enter Try.func16, Try.ntmps16
    try go_wp2_with (first | ((with_reducible refine gate_dst (N := 3) rfl ?_); refine box_event ?hg (N := 3) ?hd (cs := #[.int .i64 a0_0, .int .i64 a0_1, .slice A0_2 l0_2.length c0_2]) (t := 33) ?hr ?_; (case hd => rfl); (case hg => rfl); (case hr => first | (go_simp; done) | (go_simp; rfl)); intro gb411 hg w18 hbox hb; have n0_ := bsx hb HB; have n1_ := Aside0.mk (hbox); have n2_ := gwx hg HB; have n3_ := n2_; clear HB; have HB := n0_; have BK411 := n1_; have GW411 := n2_; have GE411 := n3_; clear n0_ n1_ n2_ n3_; clear hb hbox hg; have hcz19_0 : w18.cell? ⟨gb411, 0, none⟩ = some (.int .i64 a0_0) := (blk_cell BK411.out 0).trans rfl; have hcz19_1 : w18.cell? ⟨gb411, 1, none⟩ = some (.int .i64 a0_1) := (blk_cell BK411.out 1).trans rfl; have hcz19_2 : w18.cell? ⟨gb411, 2, none⟩ = some (.slice A0_2 l0_2.length c0_2) := (blk_cell BK411.out 2).trans rfl; have hfz19_0 := blk_frozen BK411.out 0; have hfz19_1 := blk_frozen BK411.out 1; have hfz19_2 := blk_frozen BK411.out 2) | ((with_reducible refine gate_callee (f := 34) rfl ?_); refine goesL_ (some 12) rfl rfl Try.func34 (by kernel_rfl) rfl #[.agg #[.int .i64 a0_0, .int .i64 a0_1, .slice A0_2 l0_2.length c0_2], .string a1, .string a2] rfl (by (try simp only [m_1, m_2, m_3]); first | done | rfl | (simp only [m_4, m_5]; rfl)) ?_; (with_reducible refine (spec_joTwo.calls k a0_0 a0_1 _ _ l0_2 a1 a2 true _ ?side1 ?side2 A4.out).mono ?_); (case side1 => repeat (first | exact (Kd.C_below HR0_2.out HB.out) | (with_reducible refine Kd.C_alloc ?_ _) | (with_reducible refine Kd.C_drewN ?_ _) | (with_reducible refine Kd.C_drew ?_))); (case side2 => exact HC0_2.out); rintro e w20 ⟨rfl, hb⟩; refine ⟨_, rfl, ?_⟩; replace BK411 := bbx hb BK411; replace HB := bsx hb HB; skip; (try clear hb); (try clear hb2); (try clear hk); (try clear hi)))
    have n0_ := Aside0.mk (g_e BK411.out)
    have n1_ := Aside0.mk (b_e HB.out)
    clear BK411
    clear HB
    have BK411 := n0_
    have HB := n1_
    clear n0_ n1_
    refine start_ (n := 10) (S := fun w' => w'.cell? ⟨gb411, 0, none⟩ = some (.int .i64 a0_0) ∧ w'.cell? ⟨gb411, 1, none⟩ = some (.int .i64 a0_1) ∧ w'.cell? ⟨gb411, 2, none⟩ = some (.slice A0_2 l0_2.length c0_2) ∧ True) (ds := []) (bs_ 10 0) (by kernel_rfl) rfl rfl ⟨(blk_cell BK411.out 0).trans rfl, (blk_cell BK411.out 1).trans rfl, (blk_cell BK411.out 2).trans rfl, trivial⟩ (fun hHeld => ?_); refine with_tabW spec_FewestKnobs.tab3 spec_FewestKnobs.bits3 (fun HT_ HW_ => ?_)
    generalize w20.drew = w21 at BK411 HB hHeld ⊢
    refine pua 1 15 (bs_ 10 2) HT_ ?_
    refine pua 3 17 (bs_ 10 10) HT_ ?_
    refine pua 5 19 (bs_ 10 42) HT_ ?_
    refine tk_ 0 14 (bs_ 10 43) rfl rfl HT_ HW_ (by kernel_rfl) (fun _ _ _ h => h) (by rfl) hHeld (by rintro w' ⟨s0, s1, s2, s3⟩; go_simp; with_reducible rfl) (by simp only [Act.put, s_1, s_2, s_3, i64_w, i32_w]; rfl) ?_
    refine tk_ 4 18 (bs_ 10 59) rfl rfl HT_ HW_ (by kernel_rfl) (fun _ _ _ h => h) (by rfl) hHeld (by rintro w' ⟨s0, s1, s2, s3⟩; go_simp; with_reducible rfl) (by simp only [Act.put, s_1, s_2, s_3, i64_w, i32_w]; rfl) ?_
    refine one_ (i := 2) (N := some 16) (bs_ 10 63) rfl rfl (one_of HT_.out (by kernel_rfl)) (by decide) (fun K hK => ?_)
    refine goes_ Try.func35 (by kernel_rfl) rfl #[.agg #[.int .i64 a0_0, .int .i64 a0_1, .slice A0_2 l0_2.length c0_2], .string a1] (by rfl) rfl rfl (by (try simp only [m_1, m_2, m_3]); first | done | rfl | (simp only [m_4, m_5]; rfl)) ?_
    with_reducible refine (spec_joFar.calls k a0_0 a0_1 _ _ l0_2 a1 t413 _ ?side1 ?side2 A6.out).mono ?_
    (case side1 => repeat (first | exact (Kd.C_below HR0_2.out HB.out) | (with_reducible refine Kd.C_alloc ?_ _) | (with_reducible refine Kd.C_drewN ?_ _) | (with_reducible refine Kd.C_drew ?_)))
    (case side2 => exact HC0_2.out)
    rintro e w22 ⟨v414, rfl, ho0, hb⟩
    refine ⟨_, rfl, ?_⟩
    have n0_ := Aside0.mk (Kd.R_lower ho0 (below_size (bB HB)))
    have n1_ := bbx hb BK411
    have n2_ := bsx hb HB
    clear BK411
    clear HB
    have HO415 := n0_
    have BK411 := n1_
    have HB := n2_
    clear n0_ n1_ n2_
    (try clear hb)
    (try clear hb2)
    (try clear hk)
    (try clear hi)
    (try clear ho0)
    refine hK.out _ _ ⟨(blk_cell BK411.out 0).trans rfl, (blk_cell BK411.out 1).trans rfl, (blk_cell BK411.out 2).trans rfl, trivial⟩ (fun hHeld => ?_)
    clear hK K
    refine norm_ (a' := ?_) ?_ ?_
    rotate_left
    · show Act.put _ (some 16) _ = _
      simp only [Act.put, s_1, s_2, s_3, i64_w, i32_w]
      rfl
    refine one_ (i := 6) (N := some 20) (bs_ 10 127) rfl rfl (one_of HT_.out (by kernel_rfl)) (by decide) (fun K hK => ?_)
    refine goes_ Try.func36 (by kernel_rfl) rfl #[.agg #[.int .i64 a0_0, .int .i64 a0_1], .string a2] (by rfl) rfl rfl (by (try simp only [m_1, m_2, m_3]); first | done | rfl | (simp only [m_4, m_5]; rfl)) ?_
    with_reducible refine (spec_whNumber.calls k a0_0 a0_1 a2 t416 _ A7.out).mono ?_
    rintro e w23 ⟨rfl, hb⟩
    refine ⟨_, rfl, ?_⟩
    have n0_ := Aside0.mk (Kd.R_below (by (with_reducible repeat (first | apply r_a | apply r_d | apply r_e)); exact HO415.out) hb)
    have n1_ := bbx hb BK411
    have n2_ := bsx hb HB
    clear HO415
    clear BK411
    clear HB
    have HO415 := n0_
    have BK411 := n1_
    have HB := n2_
    clear n0_ n1_ n2_
    (try clear hb)
    (try clear hb2)
    (try clear hk)
    (try clear hi)
    obtain ⟨Ao24, co24, eo24⟩ := Kd.R_slice HO415.out
    (first | subst eo24 | (injection eo24 with f1_ f2_ f3_; have f4_ := f1_.symm; have f5_ := f3_.symm; clear f1_ f2_ f3_; subst f4_; subst f5_))
    have p417 : 0 ≤ (t416 : Int) := of_decide_eq_true (by first | (with_reducible assumption) | assumption)
    have q417 : t416 < (t413.length : Int) := of_decide_eq_true (by first | (with_reducible assumption) | assumption)
    obtain ⟨ad417, e417, hx417_0⟩ := Kd.at_int (Kd.R_reads' HO415.out).2.2 t416 p417 q417
    cases e417
    replace p417 := eq_true p417
    replace q417 := eq_true q417
    refine hK.out _ _ ⟨(blk_cell BK411.out 0).trans rfl, (blk_cell BK411.out 1).trans rfl, (blk_cell BK411.out 2).trans rfl, trivial⟩ (fun hHeld => ?_)
    clear hK K
    refine norm_ (a' := ?_) ?_ ?_
    rotate_left
    · show Act.put _ (some 20) _ = _
      simp only [Act.put, s_1, s_2, s_3, i64_w, i32_w]
      rfl
    refine pua 7 21 (bs_ 10 255) HT_ ?_
    refine one_ (i := 8) (N := some 22) (bs_ 10 511) rfl rfl (one_of HT_.out (by kernel_rfl)) (by decide) (fun K hK => ?_)
    refine value_ (w1 := ?_) (v := ?_) (by rfl) rfl ?_ ?_
    rotate_left 2
    · go_simp
      constructor
      · rfl
      · rfl
    refine hK.out _ _ ⟨(blk_cell BK411.out 0).trans rfl, (blk_cell BK411.out 1).trans rfl, (blk_cell BK411.out 2).trans rfl, trivial⟩ (fun hHeld => ?_)
    clear hK K
    refine norm_ (a' := ?_) ?_ ?_
    rotate_left
    · show Act.put _ (some 22) _ = _
      simp only [Act.put, s_1, s_2, s_3, i64_w, i32_w]
      rfl
    refine pua 9 8 (bs_ 10 1023) HT_ ?_
    refine done_ (done_of HT_.out (by kernel_rfl)) ?_
    try go_wp2
    go_ret2
    exact ⟨by first | rfl | (simp [errW_none, errW_some] <;> rfl) | (simp [*, errW_none, errW_some] <;> rfl), bB HB⟩
  rw [if_pos c10] at H
  have c10b0 : decide ((rd t413 t416) < 0) = true := decide_eq_true c10
  clear c10
  simp only [Option.some.injEq, Prod.mk.injEq] at H
  obtain ⟨rfl, rfl⟩ := H
  go_enter Try.func16, Try.ntmps16
  try go_wp2_with (first | ((with_reducible refine gate_dst (N := 3) rfl ?_); refine box_event ?hg (N := 3) ?hd (cs := #[.int .i64 a0_0, .int .i64 a0_1, .slice A0_2 l0_2.length c0_2]) (t := 33) ?hr ?_; (case hd => rfl); (case hg => rfl); (case hr => first | (go_simp; done) | (go_simp; rfl)); intro gb411 hg w11 hbox hb; have n0_ := bsx hb HB; have n1_ := Aside0.mk (hbox); have n2_ := gwx hg HB; have n3_ := n2_; clear HB; have HB := n0_; have BK411 := n1_; have GW411 := n2_; have GE411 := n3_; clear n0_ n1_ n2_ n3_; clear hb hbox hg; have hcz12_0 : w11.cell? ⟨gb411, 0, none⟩ = some (.int .i64 a0_0) := (blk_cell BK411.out 0).trans rfl; have hcz12_1 : w11.cell? ⟨gb411, 1, none⟩ = some (.int .i64 a0_1) := (blk_cell BK411.out 1).trans rfl; have hcz12_2 : w11.cell? ⟨gb411, 2, none⟩ = some (.slice A0_2 l0_2.length c0_2) := (blk_cell BK411.out 2).trans rfl; have hfz12_0 := blk_frozen BK411.out 0; have hfz12_1 := blk_frozen BK411.out 1; have hfz12_2 := blk_frozen BK411.out 2) | ((with_reducible refine gate_callee (f := 34) rfl ?_); refine goesL_ (some 12) rfl rfl Try.func34 (by kernel_rfl) rfl #[.agg #[.int .i64 a0_0, .int .i64 a0_1, .slice A0_2 l0_2.length c0_2], .string a1, .string a2] rfl (by (try simp only [m_1, m_2, m_3]); first | done | rfl | (simp only [m_4, m_5]; rfl)) ?_; (with_reducible refine (spec_joTwo.calls k a0_0 a0_1 _ _ l0_2 a1 a2 true _ ?side1 ?side2 A4.out).mono ?_); (case side1 => repeat (first | exact (Kd.C_below HR0_2.out HB.out) | (with_reducible refine Kd.C_alloc ?_ _) | (with_reducible refine Kd.C_drewN ?_ _) | (with_reducible refine Kd.C_drew ?_))); (case side2 => exact HC0_2.out); rintro e w13 ⟨rfl, hb⟩; refine ⟨_, rfl, ?_⟩; replace BK411 := bbx hb BK411; replace HB := bsx hb HB; skip; (try clear hb); (try clear hb2); (try clear hk); (try clear hi)))
  have n0_ := Aside0.mk (g_e BK411.out)
  have n1_ := Aside0.mk (b_e HB.out)
  clear BK411
  clear HB
  have BK411 := n0_
  have HB := n1_
  clear n0_ n1_
  refine start_ (n := 10) (S := fun w' => w'.cell? ⟨gb411, 0, none⟩ = some (.int .i64 a0_0) ∧ w'.cell? ⟨gb411, 1, none⟩ = some (.int .i64 a0_1) ∧ w'.cell? ⟨gb411, 2, none⟩ = some (.slice A0_2 l0_2.length c0_2) ∧ True) (ds := []) (bs_ 10 0) (by kernel_rfl) rfl rfl ⟨(blk_cell BK411.out 0).trans rfl, (blk_cell BK411.out 1).trans rfl, (blk_cell BK411.out 2).trans rfl, trivial⟩ (fun hHeld => ?_); refine with_tabW spec_FewestKnobs.tab3 spec_FewestKnobs.bits3 (fun HT_ HW_ => ?_)
  generalize w13.drew = w14 at BK411 HB hHeld ⊢
  refine pua 1 15 (bs_ 10 2) HT_ ?_
  refine pua 3 17 (bs_ 10 10) HT_ ?_
  refine pua 5 19 (bs_ 10 42) HT_ ?_
  refine tk_ 0 14 (bs_ 10 43) rfl rfl HT_ HW_ (by kernel_rfl) (fun _ _ _ h => h) (by rfl) hHeld (by rintro w' ⟨s0, s1, s2, s3⟩; go_simp; with_reducible rfl) (by simp only [Act.put, s_1, s_2, s_3, i64_w, i32_w]; rfl) ?_
  refine tk_ 4 18 (bs_ 10 59) rfl rfl HT_ HW_ (by kernel_rfl) (fun _ _ _ h => h) (by rfl) hHeld (by rintro w' ⟨s0, s1, s2, s3⟩; go_simp; with_reducible rfl) (by simp only [Act.put, s_1, s_2, s_3, i64_w, i32_w]; rfl) ?_
  refine one_ (i := 2) (N := some 16) (bs_ 10 63) rfl rfl (one_of HT_.out (by kernel_rfl)) (by decide) (fun K hK => ?_)
  refine goes_ Try.func35 (by kernel_rfl) rfl #[.agg #[.int .i64 a0_0, .int .i64 a0_1, .slice A0_2 l0_2.length c0_2], .string a1] (by rfl) rfl rfl (by (try simp only [m_1, m_2, m_3]); first | done | rfl | (simp only [m_4, m_5]; rfl)) ?_
  with_reducible refine (spec_joFar.calls k a0_0 a0_1 _ _ l0_2 a1 t413 _ ?side1 ?side2 A6.out).mono ?_
  (case side1 => repeat (first | exact (Kd.C_below HR0_2.out HB.out) | (with_reducible refine Kd.C_alloc ?_ _) | (with_reducible refine Kd.C_drewN ?_ _) | (with_reducible refine Kd.C_drew ?_)))
  (case side2 => exact HC0_2.out)
  rintro e w15 ⟨v414, rfl, ho0, hb⟩
  refine ⟨_, rfl, ?_⟩
  have n0_ := Aside0.mk (Kd.R_lower ho0 (below_size (bB HB)))
  have n1_ := bbx hb BK411
  have n2_ := bsx hb HB
  clear BK411
  clear HB
  have HO415 := n0_
  have BK411 := n1_
  have HB := n2_
  clear n0_ n1_ n2_
  (try clear hb)
  (try clear hb2)
  (try clear hk)
  (try clear hi)
  (try clear ho0)
  refine hK.out _ _ ⟨(blk_cell BK411.out 0).trans rfl, (blk_cell BK411.out 1).trans rfl, (blk_cell BK411.out 2).trans rfl, trivial⟩ (fun hHeld => ?_)
  clear hK K
  refine norm_ (a' := ?_) ?_ ?_
  rotate_left
  · show Act.put _ (some 16) _ = _
    simp only [Act.put, s_1, s_2, s_3, i64_w, i32_w]
    rfl
  refine one_ (i := 6) (N := some 20) (bs_ 10 127) rfl rfl (one_of HT_.out (by kernel_rfl)) (by decide) (fun K hK => ?_)
  refine goes_ Try.func36 (by kernel_rfl) rfl #[.agg #[.int .i64 a0_0, .int .i64 a0_1], .string a2] (by rfl) rfl rfl (by (try simp only [m_1, m_2, m_3]); first | done | rfl | (simp only [m_4, m_5]; rfl)) ?_
  with_reducible refine (spec_whNumber.calls k a0_0 a0_1 a2 t416 _ A7.out).mono ?_
  rintro e w16 ⟨rfl, hb⟩
  refine ⟨_, rfl, ?_⟩
  have n0_ := Aside0.mk (Kd.R_below (by (with_reducible repeat (first | apply r_a | apply r_d | apply r_e)); exact HO415.out) hb)
  have n1_ := bbx hb BK411
  have n2_ := bsx hb HB
  clear HO415
  clear BK411
  clear HB
  have HO415 := n0_
  have BK411 := n1_
  have HB := n2_
  clear n0_ n1_ n2_
  (try clear hb)
  (try clear hb2)
  (try clear hk)
  (try clear hi)
  obtain ⟨Ao17, co17, eo17⟩ := Kd.R_slice HO415.out
  (first | subst eo17 | (injection eo17 with f1_ f2_ f3_; have f4_ := f1_.symm; have f5_ := f3_.symm; clear f1_ f2_ f3_; subst f4_; subst f5_))
  have p417 : 0 ≤ (t416 : Int) := of_decide_eq_true (by first | (with_reducible assumption) | assumption)
  have q417 : t416 < (t413.length : Int) := of_decide_eq_true (by first | (with_reducible assumption) | assumption)
  obtain ⟨ad417, e417, hx417_0⟩ := Kd.at_int (Kd.R_reads' HO415.out).2.2 t416 p417 q417
  cases e417
  replace p417 := eq_true p417
  replace q417 := eq_true q417
  refine hK.out _ _ ⟨(blk_cell BK411.out 0).trans rfl, (blk_cell BK411.out 1).trans rfl, (blk_cell BK411.out 2).trans rfl, trivial⟩ (fun hHeld => ?_)
  clear hK K
  refine norm_ (a' := ?_) ?_ ?_
  rotate_left
  · show Act.put _ (some 20) _ = _
    simp only [Act.put, s_1, s_2, s_3, i64_w, i32_w]
    rfl
  refine pua 7 21 (bs_ 10 255) HT_ ?_
  refine one_ (i := 8) (N := some 22) (bs_ 10 511) rfl rfl (one_of HT_.out (by kernel_rfl)) (by decide) (fun K hK => ?_)
  refine value_ (w1 := ?_) (v := ?_) (by rfl) rfl ?_ ?_
  rotate_left 2
  · go_simp
    constructor
    · rfl
    · rfl
  refine hK.out _ _ ⟨(blk_cell BK411.out 0).trans rfl, (blk_cell BK411.out 1).trans rfl, (blk_cell BK411.out 2).trans rfl, trivial⟩ (fun hHeld => ?_)
  clear hK K
  refine norm_ (a' := ?_) ?_ ?_
  rotate_left
  · show Act.put _ (some 22) _ = _
    simp only [Act.put, s_1, s_2, s_3, i64_w, i32_w]
    rfl
  refine pua 9 8 (bs_ 10 1023) HT_ ?_
  refine done_ (done_of HT_.out (by kernel_rfl)) ?_
  try go_wp2
  go_ret2
  exact ⟨by first | rfl | (simp [errW_none, errW_some] <;> rfl) | (simp [*, errW_none, errW_some] <;> rfl), bB HB⟩
/-! ### impl_TimesFor: function 17 (a text of our own) -/
mutual
/-- The closure: the turns told so far, and the code behind them: whether they can be gone on with to the code asked for, and the turns then. -/
def impl_TimesFor.put : Nat → Int → Int → List (List Int) → ByteArray → List Int → ByteArray → Option (Bool × List Int)
  | 0, _, _, _, _, _, _ => none
  | k + 1, W, D, ks, tz, out, code => if (out.length : Int) = (ks.length : Int) then some (code.toList == tz.toList, out) else impl_TimesFor.rep k W D ks tz out.length out code 0
def impl_TimesFor.rep : Nat → Int → Int → List (List Int) → ByteArray → Nat → List Int → ByteArray → Int → Option (Bool × List Int)
  | 0, _, _, _, _, _, _, _, _ => none
  | k + 1, W, D, ks, tz, q, out, code, n => if n < D then (if out.length < 17592186044000 then ((impl_Gears_turned.f k W D ks code (q : Int) n).bind fun c => (impl_TimesFor.put k W D ks tz (out ++ [n]) c).bind fun b => if b.1 = true then some b else (if q ≤ b.2.length then impl_TimesFor.rep k W D ks tz q (b.2.take q) code (wrap64 (n + 1)) else none)) else none) else some (false, out)
end
def impl_TimesFor.f (k : Nat) (a0_0 : Int) (a0_1 : Int) (l0_2 : List (List Int)) (a1 : ByteArray) (a2 : ByteArray) : Option (List Int × Bool) := (impl_geared.f k a0_0 a0_1 l0_2 ([a1, a2] : List ByteArray)).bind fun t => if t = true then ((impl_TimesFor.put k a0_0 a0_1 l0_2 a2 [] a1).bind fun b => if b.1 = true then some (b.2, true) else some ([], false)) else some ([], false)
theorem impl_TimesFor.mono_l : ∀ k, (∀ W D ks tz out code, LeO (impl_TimesFor.put k W D ks tz out code) (impl_TimesFor.put (k + 1) W D ks tz out code)) ∧ (∀ W D ks tz q out code n, LeO (impl_TimesFor.rep k W D ks tz q out code n) (impl_TimesFor.rep (k + 1) W D ks tz q out code n))
  | 0 => ⟨fun _ _ _ _ _ _ r h => by simp [impl_TimesFor.put] at h, fun _ _ _ _ _ _ _ _ r h => by simp [impl_TimesFor.rep] at h⟩
  | k + 1 => by
    obtain ⟨ih0, ih1⟩ := impl_TimesFor.mono_l k
    constructor
    · intro W D ks tz out code
      unfold impl_TimesFor.put
      repeat' first
      | (with_reducible exact ih1 _ _ _ _ _ _ _ _)
      | (with_reducible exact LeO.refl _)
      | (with_reducible exact LeO.none _)
      | (with_reducible refine LeO.ite ?_ ?_)
      | (with_reducible refine LeO.bind ?_ (fun _ => ?_))
    · intro W D ks tz q out code n
      unfold impl_TimesFor.rep
      repeat' first
      | (with_reducible exact ih0 _ _ _ _ _ _)
      | (with_reducible exact ih1 _ _ _ _ _ _ _ _)
      | (with_reducible exact impl_Gears_turned.mono _ _ _ _ _ _ _)
      | (with_reducible exact LeO.refl _)
      | (with_reducible exact LeO.none _)
      | (with_reducible refine LeO.ite ?_ ?_)
      | (with_reducible refine LeO.bind ?_ (fun _ => ?_))
theorem impl_TimesFor.mono : ∀ a0 a1 a2 a3 a4 k, LeO (impl_TimesFor.f k a0 a1 a2 a3 a4) (impl_TimesFor.f (k + 1) a0 a1 a2 a3 a4) := by
  intro a0 a1 a2 a3 a4 k
  unfold impl_TimesFor.f
  refine LeO.bind (impl_geared.mono _ _ _ _ _) (fun _ => LeO.ite (LeO.bind ((impl_TimesFor.mono_l k).1 _ _ _ _ _ _) (fun _ => LeO.refl _)) (LeO.refl _))
/-- A call of a function value that lies in a slot. -/
theorem impl_TimesFor.goesC {P : Program} {ops : Array Oper} {Q : Exit → Act → World → Prop} {oi : Oper} {N : Option Tmp} {a : Act} {w : World} {K : Act → World → Prop} {f : FuncId} {fn : Func} {as_ : Array Operand} {ts : Array TypeId} (t : Tmp) (caps args : Array Value) (hf : P.funcs[f]? = some fn) (hname : (fn.name == "runtime.NumGoroutine") = false) (hb : fn.body.isSome = true)
    (hw : Region.wanted oi (yielded ops a.tmps) = true) (hN : oi.dst = N) (hop : oi.op = .call { callee := .value (.tmp t), args := as_, argTypes := ts }) (hcal : a.eval (.tmp t) = .func (.func f) #[] caps) (hargs : as_.map a.eval = args)
    (h : Calls P f (args ++ caps) w fun e w' => ∃ v, e = .returned v ∧ K (a.put N v) w') : if Region.wanted oi (yielded ops a.tmps) = true then Oper.wp P oi a w K Q else K (a.put N undef) w := by
  refine call_ f (args ++ caps) hw hN ?_ h
  have he := enters_ hf hname hb (args ++ caps) w
  unfold execOp
  simp [hop, resolve, Deferred.ofValue, invoke, hcal, hargs, he]
/-- What lies in memory while the closure works: its variables' boxes and the turns. -/
structure impl_TimesFor.St (go gg gt gp : Nat) (W D : Int) (A : Option Addr) (c : Nat) (ks : List (List Int)) (tz : ByteArray) (B : Nat) (w : World) (vo : Value) (out : List Int) : Prop where
  bo : w.heap[go]? = some (.cells #[vo] 40 (0, 0))
  bg : w.heap[gg]? = some (.cells #[.int .i64 W, .int .i64 D, .slice A ks.length c] 33 (0, 0))
  bt : w.heap[gt]? = some (.cells #[.string tz] 9 (0, 0))
  bp : w.heap[gp]? = some (.cells #[(.func (.func 49) #[] #[.pointer (some ⟨go, 0, none⟩), .pointer (some ⟨gg, 0, none⟩), .pointer (some ⟨gt, 0, none⟩), .pointer (some ⟨gp, 0, none⟩)])] 78 (0, 0))
  ro : Kd.R (Kd.int .i64) 3 w B (fun _ => True) vo out
section
variable {go gg gt gp : Nat} {W D : Int} {A : Option Addr} {c : Nat} {ks : List (List Int)} {tz : ByteArray} {B : Nat} {w w1 : World} {vo v1 : Value} {out out' : List Int}
theorem impl_TimesFor.St.below (h : impl_TimesFor.St go gg gt gp W D A c ks tz B w vo out) (hb : Below w.heap.size w w1) : impl_TimesFor.St go gg gt gp W D A c ks tz B w1 vo out := ⟨blk_below h.bo hb, blk_below h.bg hb, blk_below h.bt hb, blk_below h.bp hb, Kd.R_below h.ro hb⟩
theorem impl_TimesFor.St.co (h : impl_TimesFor.St go gg gt gp W D A c ks tz B w vo out) : w.cell? ⟨go, 0, none⟩ = some vo := (blk_cell h.bo 0).trans rfl
theorem impl_TimesFor.St.cg0 (h : impl_TimesFor.St go gg gt gp W D A c ks tz B w vo out) : w.cell? ⟨gg, 0, none⟩ = some (.int .i64 W) := (blk_cell h.bg 0).trans rfl
theorem impl_TimesFor.St.cg1 (h : impl_TimesFor.St go gg gt gp W D A c ks tz B w vo out) : w.cell? ⟨gg, 1, none⟩ = some (.int .i64 D) := (blk_cell h.bg 1).trans rfl
theorem impl_TimesFor.St.cg2 (h : impl_TimesFor.St go gg gt gp W D A c ks tz B w vo out) : w.cell? ⟨gg, 2, none⟩ = some (.slice A ks.length c) := (blk_cell h.bg 2).trans rfl
theorem impl_TimesFor.St.ct (h : impl_TimesFor.St go gg gt gp W D A c ks tz B w vo out) : w.cell? ⟨gt, 0, none⟩ = some (.string tz) := (blk_cell h.bt 0).trans rfl
theorem impl_TimesFor.St.cp (h : impl_TimesFor.St go gg gt gp W D A c ks tz B w vo out) : w.cell? ⟨gp, 0, none⟩ = some (.func (.func 49) #[] #[.pointer (some ⟨go, 0, none⟩), .pointer (some ⟨gg, 0, none⟩), .pointer (some ⟨gt, 0, none⟩), .pointer (some ⟨gp, 0, none⟩)]) := (blk_cell h.bp 0).trans rfl
theorem impl_TimesFor.St.fo (h : impl_TimesFor.St go gg gt gp W D A c ks tz B w vo out) : w.frozen? ⟨go, 0, none⟩ = false := blk_frozen h.bo 0
theorem impl_TimesFor.St.set_o (h : impl_TimesFor.St go gg gt gp W D A c ks tz B w vo out) (hw : Kd.R (Kd.int .i64) 3 w B (fun _ => True) v1 out') : impl_TimesFor.St go gg gt gp W D A c ks tz B (w.setCell ⟨go, 0, none⟩ v1) v1 out' :=
  ⟨blk_put h.bo 0 _ rfl, blk_far h.bg (p := ⟨go, 0, none⟩) (blk_ne h.bg h.bo (by decide)) _, blk_far h.bt (p := ⟨go, 0, none⟩) (blk_ne h.bt h.bo (by decide)) _, blk_far h.bp (p := ⟨go, 0, none⟩) (blk_ne h.bp h.bo (by decide)) _, Kd.R_set hw h.bo (by decide) 0 _⟩
/-- An append to the turns, stored. -/
theorem impl_TimesFor.St.push (h : impl_TimesFor.St go gg gt gp W D A c ks tz B w vo out) (hg : w.grownBy w1 vo.ownBlock) (ho : Kd.R (Kd.int .i64) 3 w1 B (fun _ => True) v1 out') : impl_TimesFor.St go gg gt gp W D A c ks tz B (w1.setCell ⟨go, 0, none⟩ v1) v1 out' := by
  have bo := blk_grown h.bo hg (Kd.R_ne h.ro h.bo (by decide))
  exact ⟨blk_put bo 0 _ rfl, blk_far (blk_grown h.bg hg (Kd.R_ne h.ro h.bg (by decide))) (p := ⟨go, 0, none⟩) (blk_ne h.bg h.bo (by decide)) _, blk_far (blk_grown h.bt hg (Kd.R_ne h.ro h.bt (by decide))) (p := ⟨go, 0, none⟩) (blk_ne h.bt h.bo (by decide)) _, blk_far (blk_grown h.bp hg (Kd.R_ne h.ro h.bp (by decide))) (p := ⟨go, 0, none⟩) (blk_ne h.bp h.bo (by decide)) _, Kd.R_set ho bo (by decide) 0 _⟩
end
/-- The blocks that a call may write: the turns' box and their own row. -/
def impl_TimesFor.Sx (go : Nat) (ob : Option Nat) (k : Nat) : Prop := k = go ∨ some k = ob
/-- A row of numbers cut at its end. -/
theorem impl_TimesFor.cutR {w : World} {B : Nat} {ok : Nat → Prop} {A : Option Addr} {c n : Nat} {xs : List Int} (h : Kd.R (Kd.int .i64) 3 w B ok (.slice A xs.length c) xs) (hn : n ≤ xs.length) : Kd.R (Kd.int .i64) 3 w B ok (.slice A n c) (xs.take n) := by
  have hok := h.1
  have own := Kd.own_of_R h
  refine Kd.R_of_own (enc := Value.int .i64) ?_ (fun k hk => hok k (by revert hk; cases A <;> exact fun q => q))
  have hl : (xs.take n).length = n := by rw [List.length_take]; omega
  rw [hl]
  obtain ⟨h1, h2⟩ := own
  refine ⟨by simp [encs]; omega, ?_⟩
  rcases h2 with ⟨hu, h0⟩ | ⟨g, cap, cur, hu, hle, hb, hlen, hmax, hsz, htake⟩
  · injection hu with hA hl0 hc
    exact .inl ⟨by rw [hA, hc, show n = 0 by omega], by omega⟩
  · injection hu with hA hl0 hc
    refine .inr ⟨g, cap, cur, by rw [hA, hc], hle, hb, by omega, hmax, hsz, ?_⟩
    have := congrArg (List.take n) htake
    rw [List.take_take, Nat.min_eq_left (by omega)] at this
    rw [Nat.mul_one]
    rw [this]
    unfold encs
    rw [List.map_take]
theorem impl_TimesFor.keptS {go : Nat} {w w1 w2 : World} {ob : Option Nat} {v : Value} (h : Kept w w1 (impl_TimesFor.Sx go ob)) (hg : w1.grownBy w2 v.ownBlock) (hat : v.ownBlock = ob ∨ ∃ b, v.ownBlock = some b ∧ w.heap.size ≤ b) : Kept w w2 (impl_TimesFor.Sx go ob) := by
  refine Kept.of_grown hg h (fun k hk => ?_)
  rcases hat with e | ⟨b, e, hb⟩
  · exact .inl (.inr (hk.symm.trans e))
  · right; rw [e] at hk; injection hk with hk; omega
theorem impl_TimesFor.keptK {go : Nat} {w w1 w2 : World} {ob : Option Nat} {v : Value} (h : Kept w w1 (impl_TimesFor.Sx go ob)) (k : Kept w1 w2 (impl_TimesFor.Sx go v.ownBlock)) (hat : v.ownBlock = ob ∨ ∃ b, v.ownBlock = some b ∧ w.heap.size ≤ b) : Kept w w2 (impl_TimesFor.Sx go ob) := by
  refine h.then_ k (fun k hk => ?_)
  rcases hk with e | e
  · exact .inl (.inl e)
  · rcases hat with q | ⟨b, q, hb⟩
    · exact .inl (.inr (e.trans q))
    · right; rw [q] at e; injection e with e; omega
theorem impl_TimesFor.atS {w w1 : World} {ob : Option Nat} {v v1 : Value} (h : v.ownBlock = ob ∨ ∃ b, v.ownBlock = some b ∧ w.heap.size ≤ b) (k : v1.ownBlock = v.ownBlock ∨ ∃ b, v1.ownBlock = some b ∧ w1.heap.size ≤ b) (hs : w.heap.size ≤ w1.heap.size) : v1.ownBlock = ob ∨ ∃ b, v1.ownBlock = some b ∧ w.heap.size ≤ b := by
  rcases k with e | ⟨b, e, hb⟩
  · rw [e]; exact h
  · exact .inr ⟨b, e, Nat.le_trans hs hb⟩
set_option maxHeartbeats 16000000 in
set_option maxRecDepth 100000 in
theorem impl_TimesFor.put_calls (go gg gt gp : Nat) (W D : Int) (A : Option Addr) (c : Nat) (ks : List (List Int)) (tz : ByteArray) (w0 : World) (hgeo : w0.heap.size ≤ go) (hck : Kd.C (Kd.slice 3 (Kd.int .i64)) w0 A ks.length ks) (hcc : ks.length ≤ c) : ∀ (k : Nat) (out : List Int) (code : ByteArray) (r : Bool × List Int) (w : World) (vo : Value)
    (_hB : Below w0.heap.size w0 w) (_hS : impl_TimesFor.St go gg gt gp W D A c ks tz w0.heap.size w vo out) (_h : impl_TimesFor.put k W D ks tz out code = some r),
    Calls Try.prog 49 (#[.string code] ++ #[.pointer (some ⟨go, 0, none⟩), .pointer (some ⟨gg, 0, none⟩), .pointer (some ⟨gt, 0, none⟩), .pointer (some ⟨gp, 0, none⟩)]) w fun e w' => e = .returned (.bool r.1) ∧ ∃ vo' : Value, impl_TimesFor.St go gg gt gp W D A c ks tz w0.heap.size w' vo' r.2 ∧ Below w0.heap.size w0 w' ∧ Kept w w' (impl_TimesFor.Sx go vo.ownBlock) ∧ (vo'.ownBlock = vo.ownBlock ∨ ∃ b, vo'.ownBlock = some b ∧ w.heap.size ≤ b) := by
  have HCK := Aside0.mk hck
  have HCC := Aside0.mk hcc
  clear hck hcc
  intro k
  induction k using Nat.strongRecOn with
  | _ k ih =>
  intro out code r w vo hB hS h
  cases k with
  | zero => exact absurd h (by simp [impl_TimesFor.put])
  | succ k =>
  have hu33 := Try.underlying33
  have hu31 := Try.underlying31
  simp only [impl_TimesFor.put] at h
  obtain ⟨Ao, co_, eo⟩ := Kd.R_slice hS.ro
  subst eo
  have HB := Aside0.mk hB
  have HS := Aside0.mk hS
  have HK := Aside0.mk (Kept.refl w (impl_TimesFor.Sx go (.slice Ao out.length co_ : Value).ownBlock))
  clear hB hS
  have hco := HS.out.co; have hcg0 := HS.out.cg0; have hcg1 := HS.out.cg1; have hcg2 := HS.out.cg2; have hct := HS.out.ct; have hcp := HS.out.cp; have hfo := HS.out.fo
  by_cases c0 : (out.length : Int) = (ks.length : Int)
  · rw [if_pos c0] at h
    have c0b : ((out.length : Int) == (ks.length : Int)) = true := beq_iff_eq.mpr c0
    have c0c : (out.length == ks.length) = true := by first | simpa using c0 | (simp at c0 ⊢; omega)
    clear c0
    obtain rfl := Option.some.inj h
    clear h
    simp only [List.append_toArray, List.cons_append, List.nil_append]
    go_enter Try.func49, Try.ntmps49
    go_wp2
    go_ret
    exact ⟨rfl, _, HS.out, HB.out, HK.out, Or.inl rfl⟩
  · rw [if_neg c0] at h
    have c0b : ((out.length : Int) == (ks.length : Int)) = false := beq_eq_false_iff_ne.mpr c0
    have c0c : (out.length == ks.length) = false := by first | simpa using c0 | (simp at c0 ⊢; omega)
    clear c0
    have H' := Aside0.mk h
    clear h
    simp only [List.append_toArray, List.cons_append, List.nil_append]
    go_enter Try.func49, Try.ntmps49
    go_wp2
    go_loopg [22] k (fun kq v22 w' => ∃ (x22 : Int) (o : List Int) (vr : Value), v22 = .int .i64 x22 ∧ Aside0 (impl_TimesFor.rep kq W D ks tz out.length o code x22 = some r) ∧ Aside0 (kq ≤ k) ∧ Aside0 (impl_TimesFor.St go gg gt gp W D A c ks tz w0.heap.size w' vr o) ∧ Aside0 (Below w0.heap.size w0 w') ∧ Aside0 (Kept w w' (impl_TimesFor.Sx go (.slice Ao out.length co_ : Value).ownBlock)) ∧ Aside0 (vr.ownBlock = (.slice Ao out.length co_ : Value).ownBlock ∨ ∃ b, vr.ownBlock = some b ∧ w.heap.size ≤ b))
    case atStart => exact ⟨0, out, _, (by first | rfl | (simp; done) | (simp [*]; done)), H', ⟨Nat.le_refl _⟩, HS, HB, HK, ⟨Or.inl rfl⟩⟩
    case round =>
      clear H' HS HB HK
      clear hco hcg0 hcg1 hcg2 hct hcp hfo
      obtain ⟨x22, o, vr, rfl, HA, HK1, HS, HB, HK, HAT⟩ := hrel
      cases gk with
      | zero => exact absurd HA.out (by simp [impl_TimesFor.rep])
      | succ kq =>
        have H := HA.out
        clear HA
        simp only [impl_TimesFor.rep] at H
        by_cases c7 : x22 < D
        · rw [if_pos c7] at H
          have c7b : decide (x22 < D) = true := decide_eq_true c7
          clear c7
          by_cases c8 : o.length < 17592186044000
          rotate_left
          · rw [if_neg c8] at H; exact absurd H (by simp)
          rw [if_pos c8] at H
          have LM := Aside0.mk c8
          clear c8
          obtain ⟨c34, ht, H⟩ := Option.bind_eq_some_iff.mp H
          have HT := Aside0.mk ht
          clear ht
          obtain ⟨b_, hp, H⟩ := Option.bind_eq_some_iff.mp H
          obtain ⟨y28, hy⟩ : ∃ y_ : List Int, y_ = o ++ [x22] := ⟨_, rfl⟩
          rw [← hy] at hp
          have NY := Aside0.mk hy
          have HP := Aside0.mk hp
          clear hy hp
          obtain ⟨Aor, cor, er⟩ := Kd.R_slice HS.out.ro
          subst er
          by_cases cb : b_.1 = true
          · rw [if_pos cb] at H
            obtain rfl := Option.some.inj H
            clear H
            have CB := Aside0.mk cb
            clear cb
            have hco := HS.out.co; have hcg0 := HS.out.cg0; have hcg1 := HS.out.cg1; have hcg2 := HS.out.cg2; have hct := HS.out.ct; have hcp := HS.out.cp; have hfo := HS.out.fo
            go_wp2_with (first | ((with_reducible refine gate_dst (N := 27) rfl ?_); refine Kd.R_lit (Kd.int .i64) _ 3 ?hg (N := 27) ?hd (xs := ([x22] : List Int)) (inner := [.int .i64 x22]) (ok := fun _ => True) (okp := fun _ => True) ?hr ?hp (fun _ hk => hk) trivial (Below.refl _ _) (Nat.le_refl _) (by simp) ?_; (case hd => rfl); (case hg => rfl); (case hr => first | (go_simp; done) | (go_simp; rfl)); (case hp => exact (Reps.one (show Kd.M (Kd.int .i64) _ _ _ x22 [.int .i64 x22] from rfl) (Reps.none _ _))); intro v27 w7 ho hb hg_ hnew_; clear hg_ hnew_; clear hco hcg0 hcg1 hcg2 hct hcp hfo; have HL := Aside0.mk ho; have HOE := Aside0.mk (Kd.R_mono (Kd.R_elder' HS.out.ro (Kd.R_base ho) hb) (fun _ q_ => q_.2)); replace HS := Aside0.mk (HS.out.below hb); replace HB := Aside0.mk (below_then HB.out HB.out.size hb); replace HK := Aside0.mk (HK.out.below hb); clear ho hb; obtain ⟨A27, c27, e27⟩ := Kd.R_slice HL.out; subst e27; have hco := HS.out.co; have hcg0 := HS.out.cg0; have hcg1 := HS.out.cg1; have hcg2 := HS.out.cg2; have hct := HS.out.ct; have hcp := HS.out.cp; have hfo := HS.out.fo) | ((with_reducible refine gate_builtin (b := .append) (xs := #[.tmp 25, .tmp 27]) rfl ?_); at_builtin; refine Kd.R_append_rows (Kd.int .i64) (w0 := w0) w0.heap.size rfl (.tmp 25) (.tmp 27) 40 3 (.int .i64 0) 8 rfl Try.underlying40 info3 rfl (by decide) (by omega) (.slice Aor o.length cor) o [x22] _ _ _ (fun k_ => some k_ ≠ (.slice A27 [x22].length c27 : Value).ownBlock) (fun _ => False) rfl rfl ?aO ?aR (fun _ _ h => h) (fun _ h => h.elim) ?aF ?aB ?aS ?aL ?_; (case aR => exact (Kd.R_reads' HL.out).2.2); (case aB => exact HB.out); (case aF => exact (fun k_ hk => Kd.fresh' (Kd.R_lt HL.out) k_ hk)); (case aO => exact HOE.out); (case aS => exact HB.out.size); (case aL => have := LM.out; simp only [List.length_cons, List.length_nil]; omega); intro v28 w8 ho hb hg hat; clear hco hcg0 hcg1 hcg2 hct hcp hfo; rw [← NY.out] at ho; obtain ⟨A28, c28, e28⟩ := Kd.R_slice ho; subst e28; have HP_ := Aside0.mk (HS.out.push hg (Kd.R_mono ho (fun _ _ => trivial))); have hbo8 := blk_grown HS.out.bo hg (Kd.R_ne HS.out.ro HS.out.bo (by decide)); have HBO := Aside0.mk hbo8; have hco := (blk_cell hbo8 0).trans rfl; have hfo := blk_frozen hbo8 0; replace HB := Aside0.mk hb; have HKP := Aside0.mk (impl_TimesFor.keptS HK.out hg HAT.out); have HATP := Aside0.mk (impl_TimesFor.atS HAT.out hat HK.out.1); clear HK HAT HL HOE HS ho hb hg hat hbo8) | ((with_reducible refine gate_store (p := 1) rfl ?_); refine store_event (w1 := w8.setCell ⟨go, 0, none⟩ (.slice A28 y28.length c28)) rfl rfl rfl ?hr ?_; (case hr => first | (go_simp; done) | (go_simp; rfl)); intro w9 hw_; clear hco hfo HBO; have hs_ := HP_.out; have hb_ := HB.out.setCell (p := ⟨go, 0, none⟩) hgeo (.slice A28 y28.length c28); have hk_ := HKP.out.setCell (p := ⟨go, 0, none⟩) (.inl (Or.inl rfl)) (.slice A28 y28.length c28); rw [← hw_] at hs_ hb_ hk_; clear HP_ HKP; have HS := Aside0.mk hs_; replace HB := Aside0.mk hb_; have HK := Aside0.mk hk_; have HAT := HATP; clear hs_ hb_ hk_ hw_ HATP; have hco := HS.out.co; have hcg0 := HS.out.cg0; have hcg1 := HS.out.cg1; have hcg2 := HS.out.cg2; have hct := HS.out.ct; have hcp := HS.out.cp; have hfo := HS.out.fo))
            refine start_ (n := 7) (S := fun w' => w'.cell? ⟨gp, 0, none⟩ = some (.func (.func 49) #[] #[.pointer (some ⟨go, 0, none⟩), .pointer (some ⟨gg, 0, none⟩), .pointer (some ⟨gt, 0, none⟩), .pointer (some ⟨gp, 0, none⟩)]) ∧ w'.cell? ⟨gg, 0, none⟩ = some (.int .i64 W) ∧ w'.cell? ⟨gg, 1, none⟩ = some (.int .i64 D) ∧ w'.cell? ⟨gg, 2, none⟩ = some (.slice A ks.length c)) (ds := [6]) #[false, false, false, false, false, false, false] (by kernel_rfl) rfl rfl ⟨hcp, hcg0, hcg1, hcg2⟩ (fun hHeld => ?_)
            clear hco hcg0 hcg1 hcg2 hct hcp hfo
            have hb := below_drew1 (Below.refl w9.heap.size w9)
            replace HS := Aside0.mk (HS.out.below hb)
            replace HB := Aside0.mk (below_then HB.out HB.out.size hb)
            replace HK := Aside0.mk (HK.out.below hb)
            clear hb
            generalize w9.drew = wd_ at HS HB HK hHeld ⊢
            refine pure_ (i := 2) (N := some 31) (v := ?_) (a' := ?_) #[false, false, true, false, false, false, false] rfl rfl (by kernel_rfl) (fun _ _ _ h => h) (Or.inl ⟨by rfl, ?_⟩) ?_ ?_
            rotate_left
            · intro w'
              go_simp
              with_reducible rfl
            rotate_left
            · simp only [Act.put, List.setIfInBounds_toArray, List.set_cons_zero, List.set_cons_succ, i64_w, i32_w]
              rfl
            refine pure_ (i := 3) (N := some 32) (v := ?_) (a' := ?_) #[false, false, true, true, false, false, false] rfl rfl (by kernel_rfl) (fun _ _ _ h => h) (Or.inl ⟨by rfl, ?_⟩) ?_ ?_
            rotate_left
            · intro w'
              go_simp
              with_reducible rfl
            rotate_left
            · simp only [Act.put, List.setIfInBounds_toArray, List.set_cons_zero, List.set_cons_succ, i64_w, i32_w]
              rfl
            refine pure_ (i := 4) (N := some 33) (v := ?_) (a' := ?_) #[false, false, true, true, true, false, false] rfl rfl (by kernel_rfl) (fun _ _ _ h => h) (Or.inl ⟨by rfl, ?_⟩) ?_ ?_
            rotate_left
            · intro w'
              go_simp
              with_reducible rfl
            rotate_left
            · simp only [Act.put, List.setIfInBounds_toArray, List.set_cons_zero, List.set_cons_succ, i64_w, i32_w]
              rfl
            refine take_ (i := 0) (N := some 29) (v := ?_) (a' := ?_) #[true, false, true, true, true, false, false] rfl rfl (by kernel_rfl) (fun _ _ _ h => h) (Or.inl ⟨by rfl, ?_⟩) hHeld ?_ ?_
            rotate_left
            · rintro w' ⟨s0, s1, s2, s3⟩
              go_simp
              with_reducible rfl
            rotate_left
            · simp only [Act.put, List.setIfInBounds_toArray, List.set_cons_zero, List.set_cons_succ, i64_w, i32_w]
              rfl
            refine take_ (i := 1) (N := some 30) (v := ?_) (a' := ?_) #[true, true, true, true, true, false, false] rfl rfl (by kernel_rfl) (fun _ _ _ h => h) (Or.inl ⟨by rfl, ?_⟩) hHeld ?_ ?_
            rotate_left
            · rintro w' ⟨s0, s1, s2, s3⟩
              go_simp
              with_reducible rfl
            rotate_left
            · simp only [Act.put, List.setIfInBounds_toArray, List.set_cons_zero, List.set_cons_succ, i64_w, i32_w]
              rfl
            refine one_ (i := 5) (N := some 34) #[true, true, true, true, true, true, false] rfl rfl (by kernel_rfl) (by decide) (fun K hK => ?_)
            refine goes_ Try.func44 (by kernel_rfl) rfl #[.agg #[.int .i64 W, .int .i64 D, .slice A ks.length c], .string code, .int .i64 (out.length : Int), .int .i64 x22] (by rfl) rfl rfl (by (try simp only [List.map_toArray, List.map_cons, List.map_nil]); first | done | rfl) ?_
            with_reducible refine (impl_Gears_turned.calls kq W D A c ks code (out.length : Int) x22 c34 _ (Kd.C_below HCK.out HB.out) HCC.out HT.out).mono ?_
            rintro e w10 ⟨rfl, hb⟩
            refine ⟨_, rfl, ?_⟩
            replace HS := Aside0.mk (HS.out.below hb)
            replace HB := Aside0.mk (below_then HB.out HB.out.size hb)
            replace HK := Aside0.mk (HK.out.below hb)
            clear hb
            refine hK.out _ _ ⟨HS.out.cp, HS.out.cg0, HS.out.cg1, HS.out.cg2⟩ (fun hHeld => ?_)
            clear hK K
            refine norm_ (a' := ?_) ?_ ?_
            rotate_left
            · show Act.put _ (some 34) _ = _
              simp only [Act.put, List.setIfInBounds_toArray, List.set_cons_zero, List.set_cons_succ, i64_w, i32_w]
              rfl
            refine last_ (i := 6) (N := some 35) #[true, true, true, true, true, true, true] rfl rfl (by kernel_rfl) (by decide) (fun K hK => ?_)
            refine impl_TimesFor.goesC 29 #[.pointer (some ⟨go, 0, none⟩), .pointer (some ⟨gg, 0, none⟩), .pointer (some ⟨gt, 0, none⟩), .pointer (some ⟨gp, 0, none⟩)] #[.string c34] Try.func49 (by kernel_rfl) rfl (by rfl) rfl rfl rfl (by (try simp only [List.map_toArray, List.map_cons, List.map_nil]); first | done | rfl) ?_
            refine (ih kq (by have := HK1.out; omega) y28 c34 b_ _ (.slice A28 y28.length c28) HB.out HS.out HP.out).mono ?_
            rintro e w11 ⟨rfl, vo', hs_, hb_, hk_, hat_⟩
            have HK11 := Aside0.mk (impl_TimesFor.keptK HK.out hk_ HAT.out)
            have HAT11 := Aside0.mk (impl_TimesFor.atS HAT.out hat_ HK.out.1)
            clear HS HB HK HAT
            have HS := Aside0.mk hs_
            have HB := Aside0.mk hb_
            have HK := HK11
            have HAT := HAT11
            clear HK11 HAT11 hs_ hb_ hk_ hat_
            refine ⟨_, rfl, ?_⟩
            refine hK.out _ _ ?_
            clear hK K
            refine norm_ (a' := ?_) ?_ ?_
            rotate_left
            · show Act.put _ (some 35) _ = _
              simp only [Act.put, List.setIfInBounds_toArray, List.set_cons_zero, List.set_cons_succ, i64_w, i32_w]
              rfl
            refine done_ (by kernel_rfl) ?_
            (try rw [CB.out])
            go_wp2
            go_ret
            exact ⟨by rw [CB.out]; rfl, _, HS.out, HB.out, HK.out, HAT.out⟩
          · rw [if_neg cb] at H
            have CB := Aside0.mk (Bool.eq_false_iff.mpr cb)
            clear cb
            by_cases c9 : out.length ≤ b_.2.length
            rotate_left
            · rw [if_neg c9] at H; exact absurd H (by simp)
            rw [if_pos c9] at H
            have LQ := Aside0.mk c9
            have H' := Aside0.mk H
            clear H c9
            obtain ⟨i0, hi0, _, hsz0, _⟩ := info_parts info3
            clear hsz0
            have hco := HS.out.co; have hcg0 := HS.out.cg0; have hcg1 := HS.out.cg1; have hcg2 := HS.out.cg2; have hct := HS.out.ct; have hcp := HS.out.cp; have hfo := HS.out.fo
            go_wp2_with (first | ((with_reducible refine gate_dst (N := 27) rfl ?_); refine Kd.R_lit (Kd.int .i64) _ 3 ?hg (N := 27) ?hd (xs := ([x22] : List Int)) (inner := [.int .i64 x22]) (ok := fun _ => True) (okp := fun _ => True) ?hr ?hp (fun _ hk => hk) trivial (Below.refl _ _) (Nat.le_refl _) (by simp) ?_; (case hd => rfl); (case hg => rfl); (case hr => first | (go_simp; done) | (go_simp; rfl)); (case hp => exact (Reps.one (show Kd.M (Kd.int .i64) _ _ _ x22 [.int .i64 x22] from rfl) (Reps.none _ _))); intro v27 w7 ho hb hg_ hnew_; clear hg_ hnew_; clear hco hcg0 hcg1 hcg2 hct hcp hfo; have HL := Aside0.mk ho; have HOE := Aside0.mk (Kd.R_mono (Kd.R_elder' HS.out.ro (Kd.R_base ho) hb) (fun _ q_ => q_.2)); replace HS := Aside0.mk (HS.out.below hb); replace HB := Aside0.mk (below_then HB.out HB.out.size hb); replace HK := Aside0.mk (HK.out.below hb); clear ho hb; obtain ⟨A27, c27, e27⟩ := Kd.R_slice HL.out; subst e27; have hco := HS.out.co; have hcg0 := HS.out.cg0; have hcg1 := HS.out.cg1; have hcg2 := HS.out.cg2; have hct := HS.out.ct; have hcp := HS.out.cp; have hfo := HS.out.fo) | ((with_reducible refine gate_builtin (b := .append) (xs := #[.tmp 25, .tmp 27]) rfl ?_); at_builtin; refine Kd.R_append_rows (Kd.int .i64) (w0 := w0) w0.heap.size rfl (.tmp 25) (.tmp 27) 40 3 (.int .i64 0) 8 rfl Try.underlying40 info3 rfl (by decide) (by omega) (.slice Aor o.length cor) o [x22] _ _ _ (fun k_ => some k_ ≠ (.slice A27 [x22].length c27 : Value).ownBlock) (fun _ => False) rfl rfl ?aO ?aR (fun _ _ h => h) (fun _ h => h.elim) ?aF ?aB ?aS ?aL ?_; (case aR => exact (Kd.R_reads' HL.out).2.2); (case aB => exact HB.out); (case aF => exact (fun k_ hk => Kd.fresh' (Kd.R_lt HL.out) k_ hk)); (case aO => exact HOE.out); (case aS => exact HB.out.size); (case aL => have := LM.out; simp only [List.length_cons, List.length_nil]; omega); intro v28 w8 ho hb hg hat; clear hco hcg0 hcg1 hcg2 hct hcp hfo; rw [← NY.out] at ho; obtain ⟨A28, c28, e28⟩ := Kd.R_slice ho; subst e28; have HP_ := Aside0.mk (HS.out.push hg (Kd.R_mono ho (fun _ _ => trivial))); have hbo8 := blk_grown HS.out.bo hg (Kd.R_ne HS.out.ro HS.out.bo (by decide)); have HBO := Aside0.mk hbo8; have hco := (blk_cell hbo8 0).trans rfl; have hfo := blk_frozen hbo8 0; replace HB := Aside0.mk hb; have HKP := Aside0.mk (impl_TimesFor.keptS HK.out hg HAT.out); have HATP := Aside0.mk (impl_TimesFor.atS HAT.out hat HK.out.1); clear HK HAT HL HOE HS ho hb hg hat hbo8) | ((with_reducible refine gate_store (p := 1) rfl ?_); refine store_event (w1 := w8.setCell ⟨go, 0, none⟩ (.slice A28 y28.length c28)) rfl rfl rfl ?hr ?_; (case hr => first | (go_simp; done) | (go_simp; rfl)); intro w9 hw_; clear hco hfo HBO; have hs_ := HP_.out; have hb_ := HB.out.setCell (p := ⟨go, 0, none⟩) hgeo (.slice A28 y28.length c28); have hk_ := HKP.out.setCell (p := ⟨go, 0, none⟩) (.inl (Or.inl rfl)) (.slice A28 y28.length c28); rw [← hw_] at hs_ hb_ hk_; clear HP_ HKP; have HS := Aside0.mk hs_; replace HB := Aside0.mk hb_; have HK := Aside0.mk hk_; have HAT := HATP; clear hs_ hb_ hk_ hw_ HATP; have hco := HS.out.co; have hcg0 := HS.out.cg0; have hcg1 := HS.out.cg1; have hcg2 := HS.out.cg2; have hct := HS.out.ct; have hcp := HS.out.cp; have hfo := HS.out.fo))
            refine start_ (n := 7) (S := fun w' => w'.cell? ⟨gp, 0, none⟩ = some (.func (.func 49) #[] #[.pointer (some ⟨go, 0, none⟩), .pointer (some ⟨gg, 0, none⟩), .pointer (some ⟨gt, 0, none⟩), .pointer (some ⟨gp, 0, none⟩)]) ∧ w'.cell? ⟨gg, 0, none⟩ = some (.int .i64 W) ∧ w'.cell? ⟨gg, 1, none⟩ = some (.int .i64 D) ∧ w'.cell? ⟨gg, 2, none⟩ = some (.slice A ks.length c)) (ds := [6]) #[false, false, false, false, false, false, false] (by kernel_rfl) rfl rfl ⟨hcp, hcg0, hcg1, hcg2⟩ (fun hHeld => ?_)
            clear hco hcg0 hcg1 hcg2 hct hcp hfo
            have hb := below_drew1 (Below.refl w9.heap.size w9)
            replace HS := Aside0.mk (HS.out.below hb)
            replace HB := Aside0.mk (below_then HB.out HB.out.size hb)
            replace HK := Aside0.mk (HK.out.below hb)
            clear hb
            generalize w9.drew = wd_ at HS HB HK hHeld ⊢
            refine pure_ (i := 2) (N := some 31) (v := ?_) (a' := ?_) #[false, false, true, false, false, false, false] rfl rfl (by kernel_rfl) (fun _ _ _ h => h) (Or.inl ⟨by rfl, ?_⟩) ?_ ?_
            rotate_left
            · intro w'
              go_simp
              with_reducible rfl
            rotate_left
            · simp only [Act.put, List.setIfInBounds_toArray, List.set_cons_zero, List.set_cons_succ, i64_w, i32_w]
              rfl
            refine pure_ (i := 3) (N := some 32) (v := ?_) (a' := ?_) #[false, false, true, true, false, false, false] rfl rfl (by kernel_rfl) (fun _ _ _ h => h) (Or.inl ⟨by rfl, ?_⟩) ?_ ?_
            rotate_left
            · intro w'
              go_simp
              with_reducible rfl
            rotate_left
            · simp only [Act.put, List.setIfInBounds_toArray, List.set_cons_zero, List.set_cons_succ, i64_w, i32_w]
              rfl
            refine pure_ (i := 4) (N := some 33) (v := ?_) (a' := ?_) #[false, false, true, true, true, false, false] rfl rfl (by kernel_rfl) (fun _ _ _ h => h) (Or.inl ⟨by rfl, ?_⟩) ?_ ?_
            rotate_left
            · intro w'
              go_simp
              with_reducible rfl
            rotate_left
            · simp only [Act.put, List.setIfInBounds_toArray, List.set_cons_zero, List.set_cons_succ, i64_w, i32_w]
              rfl
            refine take_ (i := 0) (N := some 29) (v := ?_) (a' := ?_) #[true, false, true, true, true, false, false] rfl rfl (by kernel_rfl) (fun _ _ _ h => h) (Or.inl ⟨by rfl, ?_⟩) hHeld ?_ ?_
            rotate_left
            · rintro w' ⟨s0, s1, s2, s3⟩
              go_simp
              with_reducible rfl
            rotate_left
            · simp only [Act.put, List.setIfInBounds_toArray, List.set_cons_zero, List.set_cons_succ, i64_w, i32_w]
              rfl
            refine take_ (i := 1) (N := some 30) (v := ?_) (a' := ?_) #[true, true, true, true, true, false, false] rfl rfl (by kernel_rfl) (fun _ _ _ h => h) (Or.inl ⟨by rfl, ?_⟩) hHeld ?_ ?_
            rotate_left
            · rintro w' ⟨s0, s1, s2, s3⟩
              go_simp
              with_reducible rfl
            rotate_left
            · simp only [Act.put, List.setIfInBounds_toArray, List.set_cons_zero, List.set_cons_succ, i64_w, i32_w]
              rfl
            refine one_ (i := 5) (N := some 34) #[true, true, true, true, true, true, false] rfl rfl (by kernel_rfl) (by decide) (fun K hK => ?_)
            refine goes_ Try.func44 (by kernel_rfl) rfl #[.agg #[.int .i64 W, .int .i64 D, .slice A ks.length c], .string code, .int .i64 (out.length : Int), .int .i64 x22] (by rfl) rfl rfl (by (try simp only [List.map_toArray, List.map_cons, List.map_nil]); first | done | rfl) ?_
            with_reducible refine (impl_Gears_turned.calls kq W D A c ks code (out.length : Int) x22 c34 _ (Kd.C_below HCK.out HB.out) HCC.out HT.out).mono ?_
            rintro e w10 ⟨rfl, hb⟩
            refine ⟨_, rfl, ?_⟩
            replace HS := Aside0.mk (HS.out.below hb)
            replace HB := Aside0.mk (below_then HB.out HB.out.size hb)
            replace HK := Aside0.mk (HK.out.below hb)
            clear hb
            refine hK.out _ _ ⟨HS.out.cp, HS.out.cg0, HS.out.cg1, HS.out.cg2⟩ (fun hHeld => ?_)
            clear hK K
            refine norm_ (a' := ?_) ?_ ?_
            rotate_left
            · show Act.put _ (some 34) _ = _
              simp only [Act.put, List.setIfInBounds_toArray, List.set_cons_zero, List.set_cons_succ, i64_w, i32_w]
              rfl
            refine last_ (i := 6) (N := some 35) #[true, true, true, true, true, true, true] rfl rfl (by kernel_rfl) (by decide) (fun K hK => ?_)
            refine impl_TimesFor.goesC 29 #[.pointer (some ⟨go, 0, none⟩), .pointer (some ⟨gg, 0, none⟩), .pointer (some ⟨gt, 0, none⟩), .pointer (some ⟨gp, 0, none⟩)] #[.string c34] Try.func49 (by kernel_rfl) rfl (by rfl) rfl rfl rfl (by (try simp only [List.map_toArray, List.map_cons, List.map_nil]); first | done | rfl) ?_
            refine (ih kq (by have := HK1.out; omega) y28 c34 b_ _ (.slice A28 y28.length c28) HB.out HS.out HP.out).mono ?_
            rintro e w11 ⟨rfl, vo', hs_, hb_, hk_, hat_⟩
            have HK11 := Aside0.mk (impl_TimesFor.keptK HK.out hk_ HAT.out)
            have HAT11 := Aside0.mk (impl_TimesFor.atS HAT.out hat_ HK.out.1)
            clear HS HB HK HAT
            have HS := Aside0.mk hs_
            have HB := Aside0.mk hb_
            have HK := HK11
            have HAT := HAT11
            clear HK11 HAT11 hs_ hb_ hk_ hat_
            refine ⟨_, rfl, ?_⟩
            refine hK.out _ _ ?_
            clear hK K
            refine norm_ (a' := ?_) ?_ ?_
            rotate_left
            · show Act.put _ (some 35) _ = _
              simp only [Act.put, List.setIfInBounds_toArray, List.set_cons_zero, List.set_cons_succ, i64_w, i32_w]
              rfl
            refine done_ (by kernel_rfl) ?_
            (try rw [CB.out])
            obtain ⟨Av, cv, ev_⟩ := Kd.R_slice HS.out.ro
            subst ev_
            have hcut := cut_to (P := Try.prog) 40 3 .i64 Try.underlying40 hi0 Av b_.2.length cv (out.length : Int) (by omega) (by have := LQ.out; omega) (Kd.R_reads' HS.out.ro).2.1
            rw [Int.toNat_natCast] at hcut
            have hco := HS.out.co; have hcg0 := HS.out.cg0; have hcg1 := HS.out.cg1; have hcg2 := HS.out.cg2; have hct := HS.out.ct; have hcp := HS.out.cp; have hfo := HS.out.fo
            go_wp2_with (first | ((with_reducible refine gate_store (p := 1) rfl ?_); refine store_event (w1 := w11.setCell ⟨go, 0, none⟩ (.slice Av out.length cv)) rfl rfl rfl ?hr ?_; (case hr => first | (go_simp; done) | (go_simp; rfl)); intro w12 hw_; clear hcut; clear hco hcg0 hcg1 hcg2 hct hcp hfo; have hr_ := impl_TimesFor.cutR HS.out.ro (n := out.length) LQ.out; have ho_ : (.slice Av out.length cv : Value).ownBlock = (.slice Av b_.2.length cv : Value).ownBlock := (by cases Av <;> rfl); have hs_ := HS.out.set_o hr_; have hb_ := HB.out.setCell (p := ⟨go, 0, none⟩) hgeo (.slice Av out.length cv); have hk_ := HK.out.setCell (p := ⟨go, 0, none⟩) (.inl (Or.inl rfl)) (.slice Av out.length cv); have ha_ := HAT.out; rw [← ho_] at ha_; rw [← hw_] at hs_ hb_ hk_; replace HS := Aside0.mk hs_; replace HB := Aside0.mk hb_; replace HK := Aside0.mk hk_; replace HAT := Aside0.mk ha_; clear hs_ hb_ hk_ hw_ ha_ hr_ ho_))
            go_roundg kq
            case measure => have := HK1.out; omega
            case rel => exact ⟨wrap64 (x22 + 1), b_.2.take out.length, _, (by first | rfl | (simp; done) | (simp [*]; done)), H', ⟨by have := HK1.out; omega⟩, HS, HB, HK, HAT⟩
        · rw [if_neg c7] at H
          have c7b : decide (x22 < D) = false := decide_eq_false c7
          clear c7
          obtain rfl := Option.some.inj H
          have hco := HS.out.co; have hcg0 := HS.out.cg0; have hcg1 := HS.out.cg1; have hcg2 := HS.out.cg2; have hct := HS.out.ct; have hcp := HS.out.cp; have hfo := HS.out.fo
          go_wp2
          go_ret
          exact ⟨rfl, _, HS.out, HB.out, HK.out, HAT.out⟩
set_option maxHeartbeats 16000000 in
set_option maxRecDepth 100000 in
theorem impl_TimesFor.calls (k : Nat) (a0_0 : Int) (a0_1 : Int) (A0_2 : Option Addr) (c0_2 : Nat) (l0_2 : List (List Int)) (a1 : ByteArray) (a2 : ByteArray) (r1 : List Int) (r2 : Bool) (w : World) (hr0_2 : Kd.C (Kd.slice 3 (Kd.int .i64)) w A0_2 l0_2.length l0_2) (hc0_2 : l0_2.length ≤ c0_2) (h : impl_TimesFor.f k a0_0 a0_1 l0_2 a1 a2 = some (r1, r2)) :
    Calls Try.prog 17 #[.agg #[.int .i64 a0_0, .int .i64 a0_1, .slice A0_2 l0_2.length c0_2], .string a1, .string a2] w fun e w' => ∃ v0_ : Value, e = .returned (.tuple #[v0_, .bool r2]) ∧ Kd.R (Kd.int .i64) 3 w' w.heap.size (fun _ => True) v0_ r1 ∧ Below w.heap.size w w' := by
  have hu33 := Try.underlying33
  have hu31 := Try.underlying31
  have hmf : ∀ (fn : Fn) (first cap : Array Value) (w : World), (Instr.makeFunc fn first cap).run Try.prog w = .ok (.func fn first cap) w := fun _ _ _ _ => rfl
  have HB := Aside0.mk (Below.refl w.heap.size w)
  have HR := Aside0.mk hr0_2
  have HC0 := Aside0.mk hc0_2
  clear hr0_2 hc0_2
  unfold impl_TimesFor.f at h
  obtain ⟨y13, hy⟩ : ∃ y_ : List ByteArray, y_ = ([a1, a2] : List ByteArray) := ⟨_, rfl⟩
  rw [← hy] at h
  have NY := Aside0.mk hy
  clear hy
  obtain ⟨t, ht, h⟩ := Option.bind_eq_some_iff.mp h
  have A4 := Aside0.mk ht
  clear ht
  cases t with
  | false =>
    rw [if_neg (show ¬ (false = true) by decide)] at h
    simp only [Option.some.injEq, Prod.mk.injEq] at h
    obtain ⟨rfl, rfl⟩ := h
    go_enter Try.func17, Try.ntmps17
    go_wp2_with (first | ((with_reducible refine gate_dst (N := 3) rfl ?_); refine box_event ?hg (N := 3) ?hd (cs := #[.int .i64 a0_0, .int .i64 a0_1, .slice A0_2 l0_2.length c0_2]) (t := 33) ?hr ?_; (case hd => rfl); (case hg => rfl); (case hr => first | (go_simp; done) | (go_simp; rfl)); intro gg hg_ w1 hbx_ hb; have Ggg := Aside0.mk (show w.heap.size ≤ gg from by rw [hg_]; exact below_size HB.out); replace HB := Aside0.mk (below_step HB.out hb); have Bgg := Aside0.mk hbx_; clear hbx_ hb hg_; have hc_gg0 : w1.cell? ⟨gg, 0, none⟩ = some (.int .i64 a0_0) := (blk_cell Bgg.out 0).trans rfl; have hc_gg1 : w1.cell? ⟨gg, 1, none⟩ = some (.int .i64 a0_1) := (blk_cell Bgg.out 1).trans rfl; have hc_gg2 : w1.cell? ⟨gg, 2, none⟩ = some (.slice A0_2 l0_2.length c0_2) := (blk_cell Bgg.out 2).trans rfl) | ((with_reducible refine gate_dst (N := 5) rfl ?_); refine box_event ?hg (N := 5) ?hd (cs := #[.string a2]) (t := 9) ?hr ?_; (case hd => rfl); (case hg => rfl); (case hr => first | (go_simp; done) | (go_simp; rfl)); intro gt hg_ w2 hbx_ hb; clear hc_gg0 hc_gg1 hc_gg2; have Ggt := Aside0.mk (show w.heap.size ≤ gt from by rw [hg_]; exact below_size HB.out); replace Bgg := Aside0.mk (blk_below Bgg.out hb); replace HB := Aside0.mk (below_step HB.out hb); have Bgt := Aside0.mk hbx_; clear hbx_ hb hg_; have hc_gg0 : w2.cell? ⟨gg, 0, none⟩ = some (.int .i64 a0_0) := (blk_cell Bgg.out 0).trans rfl; have hc_gg1 : w2.cell? ⟨gg, 1, none⟩ = some (.int .i64 a0_1) := (blk_cell Bgg.out 1).trans rfl; have hc_gg2 : w2.cell? ⟨gg, 2, none⟩ = some (.slice A0_2 l0_2.length c0_2) := (blk_cell Bgg.out 2).trans rfl; have hc_gt0 : w2.cell? ⟨gt, 0, none⟩ = some (.string a2) := (blk_cell Bgt.out 0).trans rfl) | ((with_reducible refine gate_dst (N := 13) rfl ?_); refine Kd.R_lit Kd.string _ 9 ?hg (N := 13) ?hd (xs := ([a1, a2] : List ByteArray)) (inner := [.string a1, .string a2]) (ok := fun _ => True) (okp := fun _ => True) ?hr ?hp (fun _ hk => hk) trivial (Below.refl _ _) (Nat.le_refl _) (by simp) ?_; (case hd => rfl); (case hg => rfl); (case hr => first | (go_simp; done) | (go_simp; rfl)); (case hp => exact (Reps.one (show Kd.M Kd.string _ _ _ a1 [.string a1] from rfl) (Reps.one (show Kd.M Kd.string _ _ _ a2 [.string a2] from rfl) (Reps.none _ _)))); intro v13 w3 ho hb hg_ hnew_; clear hg_ hnew_; rw [← NY.out] at ho; clear hc_gg0 hc_gg1 hc_gg2; clear hc_gt0; have HC := Aside0.mk (Kd.R_lower ho (below_size HB.out)); replace Bgg := Aside0.mk (blk_below Bgg.out hb); replace Bgt := Aside0.mk (blk_below Bgt.out hb); replace HB := Aside0.mk (below_step HB.out hb); clear hb ho; obtain ⟨Ao13, co13, eo13⟩ := Kd.R_slice HC.out; subst eo13; have hc_gg0 : w3.cell? ⟨gg, 0, none⟩ = some (.int .i64 a0_0) := (blk_cell Bgg.out 0).trans rfl; have hc_gg1 : w3.cell? ⟨gg, 1, none⟩ = some (.int .i64 a0_1) := (blk_cell Bgg.out 1).trans rfl; have hc_gg2 : w3.cell? ⟨gg, 2, none⟩ = some (.slice A0_2 l0_2.length c0_2) := (blk_cell Bgg.out 2).trans rfl; have hc_gt0 : w3.cell? ⟨gt, 0, none⟩ = some (.string a2) := (blk_cell Bgt.out 0).trans rfl) | ((with_reducible refine gate_callee (f := 40) rfl ?_); refine goesL_ (some 14) rfl rfl Try.func40 (by kernel_rfl) rfl #[.agg #[.int .i64 a0_0, .int .i64 a0_1, .slice A0_2 l0_2.length c0_2], .slice Ao13 y13.length co13] rfl (by (try simp only [List.map_toArray, List.map_cons, List.map_nil]); first | done | rfl) ?_; (with_reducible refine (impl_geared.calls k a0_0 a0_1 _ _ l0_2 _ _ y13 false _ ?side1 ?side2 ?side3 ?side4 A4.out).mono ?_); (case side1 => exact Kd.C_below HR.out HB.out); (case side2 => exact HC0.out); (case side3 => exact (Kd.R_reads' HC.out).2.2); (case side4 => exact (Kd.R_reads' HC.out).2.1); rintro e w4 ⟨rfl, hb⟩; refine ⟨_, rfl, ?_⟩; clear hc_gg0 hc_gg1 hc_gg2; clear hc_gt0; clear HC; replace Bgg := Aside0.mk (blk_below Bgg.out hb); replace Bgt := Aside0.mk (blk_below Bgt.out hb); replace HB := Aside0.mk (below_step HB.out hb); clear hb; have hc_gg0 : w4.cell? ⟨gg, 0, none⟩ = some (.int .i64 a0_0) := (blk_cell Bgg.out 0).trans rfl; have hc_gg1 : w4.cell? ⟨gg, 1, none⟩ = some (.int .i64 a0_1) := (blk_cell Bgg.out 1).trans rfl; have hc_gg2 : w4.cell? ⟨gg, 2, none⟩ = some (.slice A0_2 l0_2.length c0_2) := (blk_cell Bgg.out 2).trans rfl; have hc_gt0 : w4.cell? ⟨gt, 0, none⟩ = some (.string a2) := (blk_cell Bgt.out 0).trans rfl))
    go_ret2
    exact ⟨_, rfl, Kd.R_nil _ _ _ _ _, HB.out⟩
  | true =>
    rw [if_pos rfl] at h
    obtain ⟨b_, hp, h⟩ := Option.bind_eq_some_iff.mp h
    have HP := Aside0.mk hp
    clear hp
    by_cases cb : b_.1 = true
    · rw [if_pos cb] at h
      simp only [Option.some.injEq, Prod.mk.injEq] at h
      obtain ⟨rfl, rfl⟩ := h
      have CB := Aside0.mk cb
      clear cb
      go_enter Try.func17, Try.ntmps17
      go_wp2_with (first | ((with_reducible refine gate_dst (N := 3) rfl ?_); refine box_event ?hg (N := 3) ?hd (cs := #[.int .i64 a0_0, .int .i64 a0_1, .slice A0_2 l0_2.length c0_2]) (t := 33) ?hr ?_; (case hd => rfl); (case hg => rfl); (case hr => first | (go_simp; done) | (go_simp; rfl)); intro gg hg_ w1 hbx_ hb; have Ggg := Aside0.mk (show w.heap.size ≤ gg from by rw [hg_]; exact below_size HB.out); replace HB := Aside0.mk (below_step HB.out hb); have Bgg := Aside0.mk hbx_; clear hbx_ hb hg_; have hc_gg0 : w1.cell? ⟨gg, 0, none⟩ = some (.int .i64 a0_0) := (blk_cell Bgg.out 0).trans rfl; have hc_gg1 : w1.cell? ⟨gg, 1, none⟩ = some (.int .i64 a0_1) := (blk_cell Bgg.out 1).trans rfl; have hc_gg2 : w1.cell? ⟨gg, 2, none⟩ = some (.slice A0_2 l0_2.length c0_2) := (blk_cell Bgg.out 2).trans rfl) | ((with_reducible refine gate_dst (N := 5) rfl ?_); refine box_event ?hg (N := 5) ?hd (cs := #[.string a2]) (t := 9) ?hr ?_; (case hd => rfl); (case hg => rfl); (case hr => first | (go_simp; done) | (go_simp; rfl)); intro gt hg_ w2 hbx_ hb; clear hc_gg0 hc_gg1 hc_gg2; have Ggt := Aside0.mk (show w.heap.size ≤ gt from by rw [hg_]; exact below_size HB.out); replace Bgg := Aside0.mk (blk_below Bgg.out hb); replace HB := Aside0.mk (below_step HB.out hb); have Bgt := Aside0.mk hbx_; clear hbx_ hb hg_; have hc_gg0 : w2.cell? ⟨gg, 0, none⟩ = some (.int .i64 a0_0) := (blk_cell Bgg.out 0).trans rfl; have hc_gg1 : w2.cell? ⟨gg, 1, none⟩ = some (.int .i64 a0_1) := (blk_cell Bgg.out 1).trans rfl; have hc_gg2 : w2.cell? ⟨gg, 2, none⟩ = some (.slice A0_2 l0_2.length c0_2) := (blk_cell Bgg.out 2).trans rfl; have hc_gt0 : w2.cell? ⟨gt, 0, none⟩ = some (.string a2) := (blk_cell Bgt.out 0).trans rfl) | ((with_reducible refine gate_dst (N := 13) rfl ?_); refine Kd.R_lit Kd.string _ 9 ?hg (N := 13) ?hd (xs := ([a1, a2] : List ByteArray)) (inner := [.string a1, .string a2]) (ok := fun _ => True) (okp := fun _ => True) ?hr ?hp (fun _ hk => hk) trivial (Below.refl _ _) (Nat.le_refl _) (by simp) ?_; (case hd => rfl); (case hg => rfl); (case hr => first | (go_simp; done) | (go_simp; rfl)); (case hp => exact (Reps.one (show Kd.M Kd.string _ _ _ a1 [.string a1] from rfl) (Reps.one (show Kd.M Kd.string _ _ _ a2 [.string a2] from rfl) (Reps.none _ _)))); intro v13 w3 ho hb hg_ hnew_; clear hg_ hnew_; rw [← NY.out] at ho; clear hc_gg0 hc_gg1 hc_gg2; clear hc_gt0; have HC := Aside0.mk (Kd.R_lower ho (below_size HB.out)); replace Bgg := Aside0.mk (blk_below Bgg.out hb); replace Bgt := Aside0.mk (blk_below Bgt.out hb); replace HB := Aside0.mk (below_step HB.out hb); clear hb ho; obtain ⟨Ao13, co13, eo13⟩ := Kd.R_slice HC.out; subst eo13; have hc_gg0 : w3.cell? ⟨gg, 0, none⟩ = some (.int .i64 a0_0) := (blk_cell Bgg.out 0).trans rfl; have hc_gg1 : w3.cell? ⟨gg, 1, none⟩ = some (.int .i64 a0_1) := (blk_cell Bgg.out 1).trans rfl; have hc_gg2 : w3.cell? ⟨gg, 2, none⟩ = some (.slice A0_2 l0_2.length c0_2) := (blk_cell Bgg.out 2).trans rfl; have hc_gt0 : w3.cell? ⟨gt, 0, none⟩ = some (.string a2) := (blk_cell Bgt.out 0).trans rfl) | ((with_reducible refine gate_callee (f := 40) rfl ?_); refine goesL_ (some 14) rfl rfl Try.func40 (by kernel_rfl) rfl #[.agg #[.int .i64 a0_0, .int .i64 a0_1, .slice A0_2 l0_2.length c0_2], .slice Ao13 y13.length co13] rfl (by (try simp only [List.map_toArray, List.map_cons, List.map_nil]); first | done | rfl) ?_; (with_reducible refine (impl_geared.calls k a0_0 a0_1 _ _ l0_2 _ _ y13 true _ ?side1 ?side2 ?side3 ?side4 A4.out).mono ?_); (case side1 => exact Kd.C_below HR.out HB.out); (case side2 => exact HC0.out); (case side3 => exact (Kd.R_reads' HC.out).2.2); (case side4 => exact (Kd.R_reads' HC.out).2.1); rintro e w4 ⟨rfl, hb⟩; refine ⟨_, rfl, ?_⟩; clear hc_gg0 hc_gg1 hc_gg2; clear hc_gt0; clear HC; replace Bgg := Aside0.mk (blk_below Bgg.out hb); replace Bgt := Aside0.mk (blk_below Bgt.out hb); replace HB := Aside0.mk (below_step HB.out hb); clear hb; have hc_gg0 : w4.cell? ⟨gg, 0, none⟩ = some (.int .i64 a0_0) := (blk_cell Bgg.out 0).trans rfl; have hc_gg1 : w4.cell? ⟨gg, 1, none⟩ = some (.int .i64 a0_1) := (blk_cell Bgg.out 1).trans rfl; have hc_gg2 : w4.cell? ⟨gg, 2, none⟩ = some (.slice A0_2 l0_2.length c0_2) := (blk_cell Bgg.out 2).trans rfl; have hc_gt0 : w4.cell? ⟨gt, 0, none⟩ = some (.string a2) := (blk_cell Bgt.out 0).trans rfl) | ((with_reducible refine gate_dst (N := 16) rfl ?_); refine Kd.R_lit (Kd.int .i64) _ 3 ?hg (N := 16) ?hd (xs := ([] : List Int)) (inner := []) (ok := fun _ => True) (okp := fun _ => True) ?hr ?hp (fun _ hk => hk) trivial (Below.refl _ _) (Nat.le_refl _) (by simp) ?_; (case hd => rfl); (case hg => rfl); (case hr => first | (go_simp; done) | (go_simp; rfl)); (case hp => exact (Reps.none _ _)); intro v16 w5 ho hb hg_ hnew_; clear hg_ hnew_; clear hc_gg0 hc_gg1 hc_gg2; clear hc_gt0; have HO := Aside0.mk (Kd.R_lower ho (below_size HB.out)); replace Bgg := Aside0.mk (blk_below Bgg.out hb); replace Bgt := Aside0.mk (blk_below Bgt.out hb); replace HB := Aside0.mk (below_step HB.out hb); clear hb ho; obtain ⟨A16, c16, e16⟩ := Kd.R_slice HO.out; subst e16; have hc_gg0 : w5.cell? ⟨gg, 0, none⟩ = some (.int .i64 a0_0) := (blk_cell Bgg.out 0).trans rfl; have hc_gg1 : w5.cell? ⟨gg, 1, none⟩ = some (.int .i64 a0_1) := (blk_cell Bgg.out 1).trans rfl; have hc_gg2 : w5.cell? ⟨gg, 2, none⟩ = some (.slice A0_2 l0_2.length c0_2) := (blk_cell Bgg.out 2).trans rfl; have hc_gt0 : w5.cell? ⟨gt, 0, none⟩ = some (.string a2) := (blk_cell Bgt.out 0).trans rfl) | ((with_reducible refine gate_dst (N := 8) rfl ?_); refine box_event ?hg (N := 8) ?hd (cs := #[.slice none 0 0]) (t := 40) ?hr ?_; (case hd => rfl); (case hg => rfl); (case hr => first | (go_simp; done) | (go_simp; rfl)); intro go hg_ w6 hbx_ hb; clear hc_gg0 hc_gg1 hc_gg2; clear hc_gt0; have Ggo := Aside0.mk (show w.heap.size ≤ go from by rw [hg_]; exact below_size HB.out); replace Bgg := Aside0.mk (blk_below Bgg.out hb); replace Bgt := Aside0.mk (blk_below Bgt.out hb); replace HO := Aside0.mk (Kd.R_below HO.out hb); replace HB := Aside0.mk (below_step HB.out hb); have Bgo := Aside0.mk hbx_; clear hbx_ hb hg_; have hc_gg0 : w6.cell? ⟨gg, 0, none⟩ = some (.int .i64 a0_0) := (blk_cell Bgg.out 0).trans rfl; have hc_gg1 : w6.cell? ⟨gg, 1, none⟩ = some (.int .i64 a0_1) := (blk_cell Bgg.out 1).trans rfl; have hc_gg2 : w6.cell? ⟨gg, 2, none⟩ = some (.slice A0_2 l0_2.length c0_2) := (blk_cell Bgg.out 2).trans rfl; have hc_gt0 : w6.cell? ⟨gt, 0, none⟩ = some (.string a2) := (blk_cell Bgt.out 0).trans rfl; have hc_go0 : w6.cell? ⟨go, 0, none⟩ = some (.slice none 0 0) := (blk_cell Bgo.out 0).trans rfl; have hf_go := blk_frozen Bgo.out 0) | ((with_reducible refine gate_store (p := 8) rfl ?_); refine store_event (w1 := w6.setCell ⟨go, 0, none⟩ (.slice A16 0 c16)) rfl rfl rfl ?hr ?_; (case hr => first | (go_simp; done) | (go_simp; rfl)); intro w7 hw_; clear hc_go0 hf_go; clear hc_gg0 hc_gg1 hc_gg2; clear hc_gt0; replace HB : Aside0 (Below w.heap.size w w7) := ⟨by rw [hw_]; exact below_set HB.out Ggo.out⟩; replace Bgg : Aside0 (w7.heap[gg]? = some (.cells #[.int .i64 a0_0, .int .i64 a0_1, .slice A0_2 l0_2.length c0_2] 33 (0, 0))) := ⟨by rw [hw_]; exact blk_far Bgg.out (p := ⟨go, 0, none⟩) (blk_ne Bgg.out Bgo.out (by decide)) _⟩; replace Bgt : Aside0 (w7.heap[gt]? = some (.cells #[.string a2] 9 (0, 0))) := ⟨by rw [hw_]; exact blk_far Bgt.out (p := ⟨go, 0, none⟩) (blk_ne Bgt.out Bgo.out (by decide)) _⟩; replace HO : Aside0 (Kd.R (Kd.int .i64) 3 w7 w.heap.size (fun _ => True) (.slice A16 0 c16) ([] : List Int)) := ⟨by rw [hw_]; exact Kd.R_set HO.out Bgo.out (by decide) 0 _⟩; replace Bgo : Aside0 (w7.heap[go]? = some (.cells #[.slice A16 0 c16] 40 (0, 0))) := ⟨by rw [hw_]; exact blk_set Bgo.out 0 _⟩; clear hw_; have hc_gg0 : w7.cell? ⟨gg, 0, none⟩ = some (.int .i64 a0_0) := (blk_cell Bgg.out 0).trans rfl; have hc_gg1 : w7.cell? ⟨gg, 1, none⟩ = some (.int .i64 a0_1) := (blk_cell Bgg.out 1).trans rfl; have hc_gg2 : w7.cell? ⟨gg, 2, none⟩ = some (.slice A0_2 l0_2.length c0_2) := (blk_cell Bgg.out 2).trans rfl; have hc_gt0 : w7.cell? ⟨gt, 0, none⟩ = some (.string a2) := (blk_cell Bgt.out 0).trans rfl; have hc_go0 : w7.cell? ⟨go, 0, none⟩ = some (.slice A16 0 c16) := (blk_cell Bgo.out 0).trans rfl; have hf_go := blk_frozen Bgo.out 0) | ((with_reducible refine gate_dst (N := 9) rfl ?_); refine box_event ?hg (N := 9) ?hd (cs := #[.nilFunc]) (t := 78) ?hr ?_; (case hd => rfl); (case hg => rfl); (case hr => first | (go_simp; done) | (go_simp; rfl)); intro gp hg_ w8 hbx_ hb; clear hc_gg0 hc_gg1 hc_gg2; clear hc_gt0; clear hc_go0 hf_go; have Ggp := Aside0.mk (show w.heap.size ≤ gp from by rw [hg_]; exact below_size HB.out); replace Bgg := Aside0.mk (blk_below Bgg.out hb); replace Bgt := Aside0.mk (blk_below Bgt.out hb); replace Bgo := Aside0.mk (blk_below Bgo.out hb); replace HO := Aside0.mk (Kd.R_below HO.out hb); replace HB := Aside0.mk (below_step HB.out hb); have Bgp := Aside0.mk hbx_; clear hbx_ hb hg_; have hc_gg0 : w8.cell? ⟨gg, 0, none⟩ = some (.int .i64 a0_0) := (blk_cell Bgg.out 0).trans rfl; have hc_gg1 : w8.cell? ⟨gg, 1, none⟩ = some (.int .i64 a0_1) := (blk_cell Bgg.out 1).trans rfl; have hc_gg2 : w8.cell? ⟨gg, 2, none⟩ = some (.slice A0_2 l0_2.length c0_2) := (blk_cell Bgg.out 2).trans rfl; have hc_gt0 : w8.cell? ⟨gt, 0, none⟩ = some (.string a2) := (blk_cell Bgt.out 0).trans rfl; have hc_go0 : w8.cell? ⟨go, 0, none⟩ = some (.slice A16 0 c16) := (blk_cell Bgo.out 0).trans rfl; have hf_go := blk_frozen Bgo.out 0; have hc_gp0 : w8.cell? ⟨gp, 0, none⟩ = some (.nilFunc) := (blk_cell Bgp.out 0).trans rfl; have hf_gp := blk_frozen Bgp.out 0) | ((with_reducible refine gate_store (p := 9) rfl ?_); refine store_event (w1 := w8.setCell ⟨gp, 0, none⟩ ((.func (.func 49) #[] #[.pointer (some ⟨go, 0, none⟩), .pointer (some ⟨gg, 0, none⟩), .pointer (some ⟨gt, 0, none⟩), .pointer (some ⟨gp, 0, none⟩)]))) rfl rfl rfl ?hr ?_; (case hr => first | (go_simp; done) | (go_simp; rfl)); intro w9 hw_; clear hc_gp0 hf_gp; clear hc_gg0 hc_gg1 hc_gg2; clear hc_gt0; clear hc_go0 hf_go; replace HB : Aside0 (Below w.heap.size w w9) := ⟨by rw [hw_]; exact below_set HB.out Ggp.out⟩; replace Bgg : Aside0 (w9.heap[gg]? = some (.cells #[.int .i64 a0_0, .int .i64 a0_1, .slice A0_2 l0_2.length c0_2] 33 (0, 0))) := ⟨by rw [hw_]; exact blk_far Bgg.out (p := ⟨gp, 0, none⟩) (blk_ne Bgg.out Bgp.out (by decide)) _⟩; replace Bgt : Aside0 (w9.heap[gt]? = some (.cells #[.string a2] 9 (0, 0))) := ⟨by rw [hw_]; exact blk_far Bgt.out (p := ⟨gp, 0, none⟩) (blk_ne Bgt.out Bgp.out (by decide)) _⟩; replace Bgo : Aside0 (w9.heap[go]? = some (.cells #[.slice A16 0 c16] 40 (0, 0))) := ⟨by rw [hw_]; exact blk_far Bgo.out (p := ⟨gp, 0, none⟩) (blk_ne Bgo.out Bgp.out (by decide)) _⟩; replace HO : Aside0 (Kd.R (Kd.int .i64) 3 w9 w.heap.size (fun _ => True) (.slice A16 0 c16) ([] : List Int)) := ⟨by rw [hw_]; exact Kd.R_set HO.out Bgp.out (by decide) 0 _⟩; replace Bgp : Aside0 (w9.heap[gp]? = some (.cells #[(.func (.func 49) #[] #[.pointer (some ⟨go, 0, none⟩), .pointer (some ⟨gg, 0, none⟩), .pointer (some ⟨gt, 0, none⟩), .pointer (some ⟨gp, 0, none⟩)])] 78 (0, 0))) := ⟨by rw [hw_]; exact blk_set Bgp.out 0 _⟩; clear hw_; have hc_gg0 : w9.cell? ⟨gg, 0, none⟩ = some (.int .i64 a0_0) := (blk_cell Bgg.out 0).trans rfl; have hc_gg1 : w9.cell? ⟨gg, 1, none⟩ = some (.int .i64 a0_1) := (blk_cell Bgg.out 1).trans rfl; have hc_gg2 : w9.cell? ⟨gg, 2, none⟩ = some (.slice A0_2 l0_2.length c0_2) := (blk_cell Bgg.out 2).trans rfl; have hc_gt0 : w9.cell? ⟨gt, 0, none⟩ = some (.string a2) := (blk_cell Bgt.out 0).trans rfl; have hc_go0 : w9.cell? ⟨go, 0, none⟩ = some (.slice A16 0 c16) := (blk_cell Bgo.out 0).trans rfl; have hf_go := blk_frozen Bgo.out 0; have hc_gp0 : w9.cell? ⟨gp, 0, none⟩ = some ((.func (.func 49) #[] #[.pointer (some ⟨go, 0, none⟩), .pointer (some ⟨gg, 0, none⟩), .pointer (some ⟨gt, 0, none⟩), .pointer (some ⟨gp, 0, none⟩)])) := (blk_cell Bgp.out 0).trans rfl; have hf_gp := blk_frozen Bgp.out 0) | (go_at_call 49; have hS_ : impl_TimesFor.St go gg gt gp a0_0 a0_1 A0_2 c0_2 l0_2 a2 w.heap.size w9 (.slice A16 ([] : List Int).length c16) [] := ⟨Bgo.out, Bgg.out, Bgt.out, Bgp.out, HO.out⟩; have hc_ := impl_TimesFor.put_calls go gg gt gp a0_0 a0_1 A0_2 c0_2 l0_2 a2 w Ggo.out HR.out HC0.out k [] a1 b_ w9 _ HB.out hS_ HP.out; simp only [List.append_toArray, List.cons_append, List.nil_append] at hc_; refine hc_.mono ?_; clear hc_; rintro e w10 ⟨rfl, v10, hs10, hb10, _, _⟩; clear hc_gg0 hc_gg1 hc_gg2; clear hc_gt0; clear hc_go0 hf_go; clear hc_gp0 hf_gp; have HS := Aside0.mk hs10; have HBX := Aside0.mk hb10; have hco10 : w10.cell? ⟨go, 0, none⟩ = some v10 := hs10.co; clear hs10 hb10 hS_; (try rw [CB.out])))
      go_ret2
      exact ⟨_, rfl, HS.out.ro, HBX.out⟩
    · rw [if_neg cb] at h
      simp only [Option.some.injEq, Prod.mk.injEq] at h
      obtain ⟨rfl, rfl⟩ := h
      have CB := Aside0.mk (Bool.eq_false_iff.mpr cb)
      clear cb
      go_enter Try.func17, Try.ntmps17
      go_wp2_with (first | ((with_reducible refine gate_dst (N := 3) rfl ?_); refine box_event ?hg (N := 3) ?hd (cs := #[.int .i64 a0_0, .int .i64 a0_1, .slice A0_2 l0_2.length c0_2]) (t := 33) ?hr ?_; (case hd => rfl); (case hg => rfl); (case hr => first | (go_simp; done) | (go_simp; rfl)); intro gg hg_ w1 hbx_ hb; have Ggg := Aside0.mk (show w.heap.size ≤ gg from by rw [hg_]; exact below_size HB.out); replace HB := Aside0.mk (below_step HB.out hb); have Bgg := Aside0.mk hbx_; clear hbx_ hb hg_; have hc_gg0 : w1.cell? ⟨gg, 0, none⟩ = some (.int .i64 a0_0) := (blk_cell Bgg.out 0).trans rfl; have hc_gg1 : w1.cell? ⟨gg, 1, none⟩ = some (.int .i64 a0_1) := (blk_cell Bgg.out 1).trans rfl; have hc_gg2 : w1.cell? ⟨gg, 2, none⟩ = some (.slice A0_2 l0_2.length c0_2) := (blk_cell Bgg.out 2).trans rfl) | ((with_reducible refine gate_dst (N := 5) rfl ?_); refine box_event ?hg (N := 5) ?hd (cs := #[.string a2]) (t := 9) ?hr ?_; (case hd => rfl); (case hg => rfl); (case hr => first | (go_simp; done) | (go_simp; rfl)); intro gt hg_ w2 hbx_ hb; clear hc_gg0 hc_gg1 hc_gg2; have Ggt := Aside0.mk (show w.heap.size ≤ gt from by rw [hg_]; exact below_size HB.out); replace Bgg := Aside0.mk (blk_below Bgg.out hb); replace HB := Aside0.mk (below_step HB.out hb); have Bgt := Aside0.mk hbx_; clear hbx_ hb hg_; have hc_gg0 : w2.cell? ⟨gg, 0, none⟩ = some (.int .i64 a0_0) := (blk_cell Bgg.out 0).trans rfl; have hc_gg1 : w2.cell? ⟨gg, 1, none⟩ = some (.int .i64 a0_1) := (blk_cell Bgg.out 1).trans rfl; have hc_gg2 : w2.cell? ⟨gg, 2, none⟩ = some (.slice A0_2 l0_2.length c0_2) := (blk_cell Bgg.out 2).trans rfl; have hc_gt0 : w2.cell? ⟨gt, 0, none⟩ = some (.string a2) := (blk_cell Bgt.out 0).trans rfl) | ((with_reducible refine gate_dst (N := 13) rfl ?_); refine Kd.R_lit Kd.string _ 9 ?hg (N := 13) ?hd (xs := ([a1, a2] : List ByteArray)) (inner := [.string a1, .string a2]) (ok := fun _ => True) (okp := fun _ => True) ?hr ?hp (fun _ hk => hk) trivial (Below.refl _ _) (Nat.le_refl _) (by simp) ?_; (case hd => rfl); (case hg => rfl); (case hr => first | (go_simp; done) | (go_simp; rfl)); (case hp => exact (Reps.one (show Kd.M Kd.string _ _ _ a1 [.string a1] from rfl) (Reps.one (show Kd.M Kd.string _ _ _ a2 [.string a2] from rfl) (Reps.none _ _)))); intro v13 w3 ho hb hg_ hnew_; clear hg_ hnew_; rw [← NY.out] at ho; clear hc_gg0 hc_gg1 hc_gg2; clear hc_gt0; have HC := Aside0.mk (Kd.R_lower ho (below_size HB.out)); replace Bgg := Aside0.mk (blk_below Bgg.out hb); replace Bgt := Aside0.mk (blk_below Bgt.out hb); replace HB := Aside0.mk (below_step HB.out hb); clear hb ho; obtain ⟨Ao13, co13, eo13⟩ := Kd.R_slice HC.out; subst eo13; have hc_gg0 : w3.cell? ⟨gg, 0, none⟩ = some (.int .i64 a0_0) := (blk_cell Bgg.out 0).trans rfl; have hc_gg1 : w3.cell? ⟨gg, 1, none⟩ = some (.int .i64 a0_1) := (blk_cell Bgg.out 1).trans rfl; have hc_gg2 : w3.cell? ⟨gg, 2, none⟩ = some (.slice A0_2 l0_2.length c0_2) := (blk_cell Bgg.out 2).trans rfl; have hc_gt0 : w3.cell? ⟨gt, 0, none⟩ = some (.string a2) := (blk_cell Bgt.out 0).trans rfl) | ((with_reducible refine gate_callee (f := 40) rfl ?_); refine goesL_ (some 14) rfl rfl Try.func40 (by kernel_rfl) rfl #[.agg #[.int .i64 a0_0, .int .i64 a0_1, .slice A0_2 l0_2.length c0_2], .slice Ao13 y13.length co13] rfl (by (try simp only [List.map_toArray, List.map_cons, List.map_nil]); first | done | rfl) ?_; (with_reducible refine (impl_geared.calls k a0_0 a0_1 _ _ l0_2 _ _ y13 true _ ?side1 ?side2 ?side3 ?side4 A4.out).mono ?_); (case side1 => exact Kd.C_below HR.out HB.out); (case side2 => exact HC0.out); (case side3 => exact (Kd.R_reads' HC.out).2.2); (case side4 => exact (Kd.R_reads' HC.out).2.1); rintro e w4 ⟨rfl, hb⟩; refine ⟨_, rfl, ?_⟩; clear hc_gg0 hc_gg1 hc_gg2; clear hc_gt0; clear HC; replace Bgg := Aside0.mk (blk_below Bgg.out hb); replace Bgt := Aside0.mk (blk_below Bgt.out hb); replace HB := Aside0.mk (below_step HB.out hb); clear hb; have hc_gg0 : w4.cell? ⟨gg, 0, none⟩ = some (.int .i64 a0_0) := (blk_cell Bgg.out 0).trans rfl; have hc_gg1 : w4.cell? ⟨gg, 1, none⟩ = some (.int .i64 a0_1) := (blk_cell Bgg.out 1).trans rfl; have hc_gg2 : w4.cell? ⟨gg, 2, none⟩ = some (.slice A0_2 l0_2.length c0_2) := (blk_cell Bgg.out 2).trans rfl; have hc_gt0 : w4.cell? ⟨gt, 0, none⟩ = some (.string a2) := (blk_cell Bgt.out 0).trans rfl) | ((with_reducible refine gate_dst (N := 16) rfl ?_); refine Kd.R_lit (Kd.int .i64) _ 3 ?hg (N := 16) ?hd (xs := ([] : List Int)) (inner := []) (ok := fun _ => True) (okp := fun _ => True) ?hr ?hp (fun _ hk => hk) trivial (Below.refl _ _) (Nat.le_refl _) (by simp) ?_; (case hd => rfl); (case hg => rfl); (case hr => first | (go_simp; done) | (go_simp; rfl)); (case hp => exact (Reps.none _ _)); intro v16 w5 ho hb hg_ hnew_; clear hg_ hnew_; clear hc_gg0 hc_gg1 hc_gg2; clear hc_gt0; have HO := Aside0.mk (Kd.R_lower ho (below_size HB.out)); replace Bgg := Aside0.mk (blk_below Bgg.out hb); replace Bgt := Aside0.mk (blk_below Bgt.out hb); replace HB := Aside0.mk (below_step HB.out hb); clear hb ho; obtain ⟨A16, c16, e16⟩ := Kd.R_slice HO.out; subst e16; have hc_gg0 : w5.cell? ⟨gg, 0, none⟩ = some (.int .i64 a0_0) := (blk_cell Bgg.out 0).trans rfl; have hc_gg1 : w5.cell? ⟨gg, 1, none⟩ = some (.int .i64 a0_1) := (blk_cell Bgg.out 1).trans rfl; have hc_gg2 : w5.cell? ⟨gg, 2, none⟩ = some (.slice A0_2 l0_2.length c0_2) := (blk_cell Bgg.out 2).trans rfl; have hc_gt0 : w5.cell? ⟨gt, 0, none⟩ = some (.string a2) := (blk_cell Bgt.out 0).trans rfl) | ((with_reducible refine gate_dst (N := 8) rfl ?_); refine box_event ?hg (N := 8) ?hd (cs := #[.slice none 0 0]) (t := 40) ?hr ?_; (case hd => rfl); (case hg => rfl); (case hr => first | (go_simp; done) | (go_simp; rfl)); intro go hg_ w6 hbx_ hb; clear hc_gg0 hc_gg1 hc_gg2; clear hc_gt0; have Ggo := Aside0.mk (show w.heap.size ≤ go from by rw [hg_]; exact below_size HB.out); replace Bgg := Aside0.mk (blk_below Bgg.out hb); replace Bgt := Aside0.mk (blk_below Bgt.out hb); replace HO := Aside0.mk (Kd.R_below HO.out hb); replace HB := Aside0.mk (below_step HB.out hb); have Bgo := Aside0.mk hbx_; clear hbx_ hb hg_; have hc_gg0 : w6.cell? ⟨gg, 0, none⟩ = some (.int .i64 a0_0) := (blk_cell Bgg.out 0).trans rfl; have hc_gg1 : w6.cell? ⟨gg, 1, none⟩ = some (.int .i64 a0_1) := (blk_cell Bgg.out 1).trans rfl; have hc_gg2 : w6.cell? ⟨gg, 2, none⟩ = some (.slice A0_2 l0_2.length c0_2) := (blk_cell Bgg.out 2).trans rfl; have hc_gt0 : w6.cell? ⟨gt, 0, none⟩ = some (.string a2) := (blk_cell Bgt.out 0).trans rfl; have hc_go0 : w6.cell? ⟨go, 0, none⟩ = some (.slice none 0 0) := (blk_cell Bgo.out 0).trans rfl; have hf_go := blk_frozen Bgo.out 0) | ((with_reducible refine gate_store (p := 8) rfl ?_); refine store_event (w1 := w6.setCell ⟨go, 0, none⟩ (.slice A16 0 c16)) rfl rfl rfl ?hr ?_; (case hr => first | (go_simp; done) | (go_simp; rfl)); intro w7 hw_; clear hc_go0 hf_go; clear hc_gg0 hc_gg1 hc_gg2; clear hc_gt0; replace HB : Aside0 (Below w.heap.size w w7) := ⟨by rw [hw_]; exact below_set HB.out Ggo.out⟩; replace Bgg : Aside0 (w7.heap[gg]? = some (.cells #[.int .i64 a0_0, .int .i64 a0_1, .slice A0_2 l0_2.length c0_2] 33 (0, 0))) := ⟨by rw [hw_]; exact blk_far Bgg.out (p := ⟨go, 0, none⟩) (blk_ne Bgg.out Bgo.out (by decide)) _⟩; replace Bgt : Aside0 (w7.heap[gt]? = some (.cells #[.string a2] 9 (0, 0))) := ⟨by rw [hw_]; exact blk_far Bgt.out (p := ⟨go, 0, none⟩) (blk_ne Bgt.out Bgo.out (by decide)) _⟩; replace HO : Aside0 (Kd.R (Kd.int .i64) 3 w7 w.heap.size (fun _ => True) (.slice A16 0 c16) ([] : List Int)) := ⟨by rw [hw_]; exact Kd.R_set HO.out Bgo.out (by decide) 0 _⟩; replace Bgo : Aside0 (w7.heap[go]? = some (.cells #[.slice A16 0 c16] 40 (0, 0))) := ⟨by rw [hw_]; exact blk_set Bgo.out 0 _⟩; clear hw_; have hc_gg0 : w7.cell? ⟨gg, 0, none⟩ = some (.int .i64 a0_0) := (blk_cell Bgg.out 0).trans rfl; have hc_gg1 : w7.cell? ⟨gg, 1, none⟩ = some (.int .i64 a0_1) := (blk_cell Bgg.out 1).trans rfl; have hc_gg2 : w7.cell? ⟨gg, 2, none⟩ = some (.slice A0_2 l0_2.length c0_2) := (blk_cell Bgg.out 2).trans rfl; have hc_gt0 : w7.cell? ⟨gt, 0, none⟩ = some (.string a2) := (blk_cell Bgt.out 0).trans rfl; have hc_go0 : w7.cell? ⟨go, 0, none⟩ = some (.slice A16 0 c16) := (blk_cell Bgo.out 0).trans rfl; have hf_go := blk_frozen Bgo.out 0) | ((with_reducible refine gate_dst (N := 9) rfl ?_); refine box_event ?hg (N := 9) ?hd (cs := #[.nilFunc]) (t := 78) ?hr ?_; (case hd => rfl); (case hg => rfl); (case hr => first | (go_simp; done) | (go_simp; rfl)); intro gp hg_ w8 hbx_ hb; clear hc_gg0 hc_gg1 hc_gg2; clear hc_gt0; clear hc_go0 hf_go; have Ggp := Aside0.mk (show w.heap.size ≤ gp from by rw [hg_]; exact below_size HB.out); replace Bgg := Aside0.mk (blk_below Bgg.out hb); replace Bgt := Aside0.mk (blk_below Bgt.out hb); replace Bgo := Aside0.mk (blk_below Bgo.out hb); replace HO := Aside0.mk (Kd.R_below HO.out hb); replace HB := Aside0.mk (below_step HB.out hb); have Bgp := Aside0.mk hbx_; clear hbx_ hb hg_; have hc_gg0 : w8.cell? ⟨gg, 0, none⟩ = some (.int .i64 a0_0) := (blk_cell Bgg.out 0).trans rfl; have hc_gg1 : w8.cell? ⟨gg, 1, none⟩ = some (.int .i64 a0_1) := (blk_cell Bgg.out 1).trans rfl; have hc_gg2 : w8.cell? ⟨gg, 2, none⟩ = some (.slice A0_2 l0_2.length c0_2) := (blk_cell Bgg.out 2).trans rfl; have hc_gt0 : w8.cell? ⟨gt, 0, none⟩ = some (.string a2) := (blk_cell Bgt.out 0).trans rfl; have hc_go0 : w8.cell? ⟨go, 0, none⟩ = some (.slice A16 0 c16) := (blk_cell Bgo.out 0).trans rfl; have hf_go := blk_frozen Bgo.out 0; have hc_gp0 : w8.cell? ⟨gp, 0, none⟩ = some (.nilFunc) := (blk_cell Bgp.out 0).trans rfl; have hf_gp := blk_frozen Bgp.out 0) | ((with_reducible refine gate_store (p := 9) rfl ?_); refine store_event (w1 := w8.setCell ⟨gp, 0, none⟩ ((.func (.func 49) #[] #[.pointer (some ⟨go, 0, none⟩), .pointer (some ⟨gg, 0, none⟩), .pointer (some ⟨gt, 0, none⟩), .pointer (some ⟨gp, 0, none⟩)]))) rfl rfl rfl ?hr ?_; (case hr => first | (go_simp; done) | (go_simp; rfl)); intro w9 hw_; clear hc_gp0 hf_gp; clear hc_gg0 hc_gg1 hc_gg2; clear hc_gt0; clear hc_go0 hf_go; replace HB : Aside0 (Below w.heap.size w w9) := ⟨by rw [hw_]; exact below_set HB.out Ggp.out⟩; replace Bgg : Aside0 (w9.heap[gg]? = some (.cells #[.int .i64 a0_0, .int .i64 a0_1, .slice A0_2 l0_2.length c0_2] 33 (0, 0))) := ⟨by rw [hw_]; exact blk_far Bgg.out (p := ⟨gp, 0, none⟩) (blk_ne Bgg.out Bgp.out (by decide)) _⟩; replace Bgt : Aside0 (w9.heap[gt]? = some (.cells #[.string a2] 9 (0, 0))) := ⟨by rw [hw_]; exact blk_far Bgt.out (p := ⟨gp, 0, none⟩) (blk_ne Bgt.out Bgp.out (by decide)) _⟩; replace Bgo : Aside0 (w9.heap[go]? = some (.cells #[.slice A16 0 c16] 40 (0, 0))) := ⟨by rw [hw_]; exact blk_far Bgo.out (p := ⟨gp, 0, none⟩) (blk_ne Bgo.out Bgp.out (by decide)) _⟩; replace HO : Aside0 (Kd.R (Kd.int .i64) 3 w9 w.heap.size (fun _ => True) (.slice A16 0 c16) ([] : List Int)) := ⟨by rw [hw_]; exact Kd.R_set HO.out Bgp.out (by decide) 0 _⟩; replace Bgp : Aside0 (w9.heap[gp]? = some (.cells #[(.func (.func 49) #[] #[.pointer (some ⟨go, 0, none⟩), .pointer (some ⟨gg, 0, none⟩), .pointer (some ⟨gt, 0, none⟩), .pointer (some ⟨gp, 0, none⟩)])] 78 (0, 0))) := ⟨by rw [hw_]; exact blk_set Bgp.out 0 _⟩; clear hw_; have hc_gg0 : w9.cell? ⟨gg, 0, none⟩ = some (.int .i64 a0_0) := (blk_cell Bgg.out 0).trans rfl; have hc_gg1 : w9.cell? ⟨gg, 1, none⟩ = some (.int .i64 a0_1) := (blk_cell Bgg.out 1).trans rfl; have hc_gg2 : w9.cell? ⟨gg, 2, none⟩ = some (.slice A0_2 l0_2.length c0_2) := (blk_cell Bgg.out 2).trans rfl; have hc_gt0 : w9.cell? ⟨gt, 0, none⟩ = some (.string a2) := (blk_cell Bgt.out 0).trans rfl; have hc_go0 : w9.cell? ⟨go, 0, none⟩ = some (.slice A16 0 c16) := (blk_cell Bgo.out 0).trans rfl; have hf_go := blk_frozen Bgo.out 0; have hc_gp0 : w9.cell? ⟨gp, 0, none⟩ = some ((.func (.func 49) #[] #[.pointer (some ⟨go, 0, none⟩), .pointer (some ⟨gg, 0, none⟩), .pointer (some ⟨gt, 0, none⟩), .pointer (some ⟨gp, 0, none⟩)])) := (blk_cell Bgp.out 0).trans rfl; have hf_gp := blk_frozen Bgp.out 0) | (go_at_call 49; have hS_ : impl_TimesFor.St go gg gt gp a0_0 a0_1 A0_2 c0_2 l0_2 a2 w.heap.size w9 (.slice A16 ([] : List Int).length c16) [] := ⟨Bgo.out, Bgg.out, Bgt.out, Bgp.out, HO.out⟩; have hc_ := impl_TimesFor.put_calls go gg gt gp a0_0 a0_1 A0_2 c0_2 l0_2 a2 w Ggo.out HR.out HC0.out k [] a1 b_ w9 _ HB.out hS_ HP.out; simp only [List.append_toArray, List.cons_append, List.nil_append] at hc_; refine hc_.mono ?_; clear hc_; rintro e w10 ⟨rfl, v10, hs10, hb10, _, _⟩; clear hc_gg0 hc_gg1 hc_gg2; clear hc_gt0; clear hc_go0 hf_go; clear hc_gp0 hf_gp; have HS := Aside0.mk hs10; have HBX := Aside0.mk hb10; have hco10 : w10.cell? ⟨go, 0, none⟩ = some v10 := hs10.co; clear hs10 hb10 hS_; (try rw [CB.out])))
      go_ret2
      exact ⟨_, rfl, Kd.R_nil _ _ _ _ _, HBX.out⟩


/-! ### spec_l1Own: function 85 -/
def spec_l1Own.f (l0 : List Int) : Option (List Int) := (some (([] : List Int) : List Int)).bind fun y418 => (if y418.length + l0.length < 17592186044416 then (some (y418 ++ l0)) else (none))
set_option maxHeartbeats 8000000 in
set_option maxRecDepth 100000 in
theorem spec_l1Own.calls (A0 : Option Addr) (c0 : Nat) (l0 : List Int) (r : List Int) (w : World) (hr0 : Kd.C (Kd.int .i64) w A0 l0.length l0) (hc0 : l0.length ≤ c0) (h : spec_l1Own.f l0 = some r) :
    Calls Try.prog 85 #[.slice A0 l0.length c0] w fun e w' => ∃ v0_ : Value, e = .returned (v0_) ∧ Kd.R (Kd.int .i64) 3 w' w.heap.size (fun _ => True) v0_ r ∧ Below w.heap.size w w' := by
  have HR0 := Aside0.mk hr0
  have HC0 := Aside0.mk hc0
  clear hr0 hc0
  have HB := Aside0.mk (Below.refl w.heap.size w)
  have H : ((some (([] : List Int) : List Int)).bind fun y418 => (if y418.length + l0.length < 17592186044416 then (some (y418 ++ l0)) else (none))) = some r := h
  clear h
  obtain ⟨y418, hy418⟩ : ∃ y_ : List Int, y_ = (([] : List Int)) := ⟨_, rfl⟩
  replace H : (if y418.length + l0.length < 17592186044416 then (some (y418 ++ l0)) else (none)) = some r := by first | (rw [hy418]; with_reducible exact H) | (have H2_ := (Option.bind_some _ _).symm.trans H; rw [hy418]; with_reducible exact H2_) | (have H2_ := (Option.bind_some _ _).symm.trans H; with_reducible exact H2_) | with_reducible exact H | (rw [hy418]; exact H) | exact H
  have Ny418 := Aside0.mk hy418
  clear hy418
  by_cases c2 : y418.length + l0.length < 17592186044416
  rotate_left
  · rw [if_neg c2] at H
    exact absurd H (by simp)

  rw [if_pos c2] at H
  have LMc2 := Aside0.mk c2
  clear c2
  obtain ⟨y421, hy421⟩ : ∃ y_ : List Int, y_ = (y418 ++ l0) := ⟨_, rfl⟩
  replace H : (some y421) = some r := by first | (rw [hy421]; with_reducible exact H) | (have H2_ := (Option.bind_some _ _).symm.trans H; rw [hy421]; with_reducible exact H2_) | (have H2_ := (Option.bind_some _ _).symm.trans H; with_reducible exact H2_) | with_reducible exact H | (rw [hy421]; exact H) | exact H
  have Ny421 := Aside0.mk hy421
  clear hy421
  obtain rfl := Option.some.inj H
  go_enter Try.func85, Try.ntmps85
  go_wp2_with (first | ((with_reducible refine gate_dst (N := 3) rfl ?_); refine Kd.R_lit (Kd.int .i64) _ 3 ?hg (N := 3) ?hd (xs := ([] : List Int)) (inner := []) (ok := fun _ => True) (okp := fun _ => True) ?hr ?hp (fun _ hk => hk) trivial (Below.refl _ _) (Nat.le_refl _) (by simp) ?_; (case hd => rfl); (case hg => rfl); (case hr => first | (go_simp; done) | (go_simp; rfl)); (case hp => exact (Reps.none _ _)); intro v419 w3 ho4 hb hg_ hnew_; clear hg_ hnew_; (first | rw [← Ny418.out] at ho4 | (simp only [Int.reduceToNat] at ho4; rw [← Ny418.out] at ho4)); have n0_ := Aside0.mk (Kd.R_lower ho4 (below_size (bB HB))); have n1_ := bsx hb HB; clear HB; have HO420 := n0_; have HB := n1_; clear n0_ n1_; clear hb ho4) | ((with_reducible refine gate_builtin (b := .append) (xs := #[.tmp 3, .tmp 4]) rfl ?_); at_builtin; refine Kd.R_append_rows (Kd.int .i64) (w0 := w) w.heap.size rfl (.tmp 3) (.tmp 4) 40 3 (.int .i64 0) 8 rfl Try.underlying40 info3 rfl (by decide) (by omega) v419 y418 l0 _ _ _ (fun _ => True) (fun _ => False) rfl rfl ?aO ?aR (fun _ _ h => h) (fun _ h => h.elim) ?aF ?aB ?aS ?aL ?_; (case aR => repeat (first | exact (Kd.C_below HR0.out HB.out) | (with_reducible refine Kd.C_alloc ?_ _) | (with_reducible refine Kd.C_drewN ?_ _) | (with_reducible refine Kd.C_drew ?_))); (case aB => exact (bB HB)); (case aF => exact (fun _ _ => trivial)); (case aO => exact (by (with_reducible repeat (first | apply r_a | apply r_d | apply r_e)); exact HO420.out)); (case aS => exact (below_size (bB HB))); (case aL => have := LMc2.out; omega); intro v422 w5 ho hb hg hat; rw [← Ny421.out] at ho; have n0_ := Aside0.mk (hb); have n1_ := Aside0.mk (ho); clear HB; clear HO420; have HB := n0_; have HO423 := n1_; clear n0_ n1_; clear ho hb hg hat))
  go_ret
  exact ⟨_, by first | rfl | (simp [errW_none, errW_some] <;> rfl) | (simp [*, errW_none, errW_some] <;> rfl), by (with_reducible repeat (first | apply r_a | apply r_d | apply r_e)); exact HO423.out, bB HB⟩
end Go.Proofs.Ytiacdekbleebjaa.P
