-- Texts of this session's own program (wip/dr.py), which runs the kit's printer.
import Derived.Test.YtijbngmlaggclaaPx0
import Derived.Test.YtijbngmlaggclaaPx65
namespace Go.Proofs.Ytijbngmlaggclaa.P
open Go.RowKit Go.Proofs.YtijbngmlaggclaaW.PrintWords Go.Proofs.YtijbngmlaggclaaW.PrintLast Go.Proofs.YtijbngmlaggclaaW.PrintMore
attribute [local go_sem] max2_int min2_int max_two min_two max_three min_three max_four min_four   -- for this text's walks alone
set_option linter.unusedVariables false
set_option linter.unusedSimpArgs false

/-! ### spec_DrawForthPart: function 33 -/
def spec_DrawForthPart.f (k : Nat) (l0 : List Int) : Option (Int × Int × Int × Int) := (spec_newCur.f l0).bind fun bt657 => ((spec_l1Cur_ranked.f k bt657.1 bt657.2.1 bt657.2.2).bind fun bt661 => ((spec_l1Cur_among.f bt657.1 bt661.2.2.2.1 bt661.2.2.2.2 (([0, 1, 3, 5, 9, 60, 61, (-1)] : List Int))).bind fun bt670 => (some (bt661.1, bt661.2.1, bt661.2.2.1, bt670.1))))
theorem spec_DrawForthPart.mono : ∀ a0 k, LeO (spec_DrawForthPart.f k a0) (spec_DrawForthPart.f (k + 1) a0) := by
  intro a0 k
  unfold spec_DrawForthPart.f
  repeat' first
      | (with_reducible exact spec_l1Cur_ranked.mono _ _ _ _)
      | (with_reducible exact LeO.refl _)
      | (with_reducible exact LeO.none _)
      | (with_reducible refine LeO.ite ?_ ?_)
      | (with_reducible refine LeO.bind ?_ (fun _ => ?_))
      | exact spec_l1Cur_ranked.mono _ _ _ _
      | exact LeO.none _
      | refine LeO.ite ?_ ?_
      | refine LeO.bind ?_ (fun _ => ?_)
def spec_DrawForthPart.T3 : Bool × List (List Nat × List Nat) := (true, [([], []), ([], []), ([], []), ([], []), ([2, 3], [2, 3]), ([0, 4, 0], [0]), ([1, 5, 0, 1, 5], [1]), ([4, 6, 0, 1, 2, 3, 4, 5, 6], [4])])
def spec_DrawForthPart.B3 : List Nat := [0, 0, 0, 0, 12, 29, 63, 127]
theorem spec_DrawForthPart.tab3 : rtab .any (opsOf Try.f33 3) = spec_DrawForthPart.T3 := by kernel_rfl
theorem spec_DrawForthPart.bits3 : waitsOk spec_DrawForthPart.T3.2 spec_DrawForthPart.B3 = true := by kernel_rfl
set_option maxHeartbeats 8000000 in
set_option maxRecDepth 100000 in
theorem spec_DrawForthPart.calls (k : Nat) (A0 : Option Addr) (c0 : Nat) (l0 : List Int) (r1 : Int) (r2 : Int) (r3 : Int) (r4 : Int) (w : World) (hr0 : Kd.C (Kd.int .u8) w A0 l0.length l0) (hc0 : l0.length ≤ c0) (h : spec_DrawForthPart.f k l0 = some (r1, r2, r3, r4)) :
    Calls Try.prog 33 #[.slice A0 l0.length c0] w fun e w' => e = .returned (.tuple #[.agg #[.int .i64 r1, .int .i64 r2], .int .i64 r3, .int .i64 r4]) ∧ Below w.heap.size w w' := by
  have hu26 := Try.underlying26
  have HR0 := Aside0.mk hr0
  have HC0 := Aside0.mk hc0
  clear hr0 hc0
  have HB := Aside0.mk (Below.refl w.heap.size w)
  have H : ((spec_newCur.f l0).bind fun bt657 => ((spec_l1Cur_ranked.f k bt657.1 bt657.2.1 bt657.2.2).bind fun bt661 => ((spec_l1Cur_among.f bt657.1 bt661.2.2.2.1 bt661.2.2.2.2 (([0, 1, 3, 5, 9, 60, 61, (-1)] : List Int))).bind fun bt670 => (some (bt661.1, bt661.2.1, bt661.2.2.1, bt670.1))))) = some (r1, r2, r3, r4) := h
  clear h
  replace H := Option.bind_eq_some_iff.mp H
  obtain ⟨⟨t657, t658, t659⟩, A20, H⟩ := H
  try dsimp only at H
  have A2 := Aside0.mk A20
  clear A20
  replace H := Option.bind_eq_some_iff.mp H
  obtain ⟨⟨t661, t662, t663, t664, t665⟩, A30, H⟩ := H
  try dsimp only at H
  have A3 := Aside0.mk A30
  clear A30
  obtain ⟨y667, hy667⟩ : ∃ y_ : List Int, y_ = (([0, 1, 3, 5, 9, 60, 61, (-1)] : List Int)) := ⟨_, rfl⟩
  replace H : ((spec_l1Cur_among.f t657 t664 t665 y667).bind fun bt670 => (some (t661, t662, t663, bt670.1))) = some (r1, r2, r3, r4) := by first | (rw [hy667]; with_reducible exact H) | (have H2_ := (Option.bind_some _ _).symm.trans H; rw [hy667]; with_reducible exact H2_) | (have H2_ := (Option.bind_some _ _).symm.trans H; with_reducible exact H2_) | with_reducible exact H | (rw [hy667]; exact H) | exact H
  have Ny667 := Aside0.mk hy667
  clear hy667
  replace H := Option.bind_eq_some_iff.mp H
  obtain ⟨⟨t670, t671, t672⟩, A40, H⟩ := H
  try dsimp only at H
  have A4 := Aside0.mk A40
  clear A40
  simp only [Option.some.injEq, Prod.mk.injEq] at H
  obtain ⟨rfl, rfl, rfl, rfl⟩ := H
  have hu78 := Try.underlying78
  go_enter Try.func33, Try.ntmps33
  try go_wp2_with (first | ((with_reducible refine gate_dst (N := 2) rfl ?_); refine box_event ?hg (N := 2) ?hd (cs := #[.int .i64 0, .int .i64 0]) (t := 26) ?hr ?_; (case hd => rfl); (case hg => rfl); (case hr => first | (go_simp; done) | (go_simp; rfl)); intro gb656 hg w5 hbox hb; have n0_ := bsx hb HB; have n1_ := Aside0.mk (hbox); have n2_ := gwx hg HB; have n3_ := n2_; clear HB; have HB := n0_; have BK656 := n1_; have GW656 := n2_; have GE656 := n3_; clear n0_ n1_ n2_ n3_; clear hb hbox hg) | ((with_reducible refine gate_dst (N := 10) rfl ?_); refine box_event ?hg (N := 10) ?hd (cs := #[.slice A0 l0.length c0, .int .i64 0, .int .u64 0]) (t := 78) ?hr ?_; (case hd => rfl); (case hg => rfl); (case hr => first | (go_simp; done) | (go_simp; rfl)); intro g660 hg w6 hbox hb2; have hi : IsS78 w w6 g660 t657 t658 t659 := spec_newCur.is A2.out hbox (by rw [hg]; exact (below_size (bB HB))) HR0.out; have hb := below_step (bB HB) hb2; clear hbox hg; have n0_ := Aside0.mk (blk_below (g := gb656) (o := .cells #[.int .i64 0, .int .i64 0] 26 (0, 0)) (bK BK656) hb2); have n1_ := Aside0.mk (hb); have n2_ := Aside0.mk (hi); have n3_ := Aside0.mk (IsS78.ne_blk hi (blk_below (g := gb656) (o := .cells #[.int .i64 0, .int .i64 0] 26 (0, 0)) (bK BK656) hb2) (by decide)); have n4_ := Aside0.mk (Ne.symm (IsS78.ne_blk hi (blk_below (g := gb656) (o := .cells #[.int .i64 0, .int .i64 0] 26 (0, 0)) (bK BK656) hb2) (by decide))); clear BK656; clear HB; have BK656 := n0_; have HB := n1_; have HI660 := n2_; have NB660_656 := n3_; have NB656_660 := n4_; clear n0_ n1_ n2_ n3_ n4_; (try clear hb); (try clear hb2); (try clear hk); (try clear hi)) | ((with_reducible refine gate_callee (f := 59) rfl ?_); refine goesL_ (some 13) rfl rfl Try.func59 (by kernel_rfl) rfl #[.pointer (some ⟨g660, 0, none⟩)] rfl (by (try simp only [m_1, m_2, m_3]); first | done | rfl | (simp only [m_4, m_5]; rfl)) ?_; (with_reducible refine (spec_l1Cur_ranked.calls k g660 t657 t658 t659 t661 t662 t663 t664 t665 w _ ?side1 ?side2 A3.out).mono ?_); (case side1 => exact sI HI660); (case side2 => exact sB HB); rintro e w7 ⟨rfl, hi, hb, hk⟩; refine ⟨_, rfl, ?_⟩; have n0_ := Aside0.mk (KeepBut.blk hk (bK BK656) NB656_660.out (by simp)); have n1_ := Aside0.mk (hb); have n2_ := Aside0.mk (hi); clear BK656; clear HB; clear HI660; have BK656 := n0_; have HB := n1_; have HI660 := n2_; clear n0_ n1_ n2_; (try clear hb); (try clear hb2); (try clear hk); (try clear hi)) | ((with_reducible refine gate_dst (N := 6) rfl ?_); refine box_event ?hg (N := 6) ?hd (cs := #[.int .i64 0, .int .i64 0]) (t := 26) ?hr ?_; (case hd => rfl); (case hg => rfl); (case hr => first | (go_simp; done) | (go_simp; rfl)); intro gb666 hg w8 hbox hb; have n0_ := bbx hb BK656; have n1_ := Aside0.mk (IsS78.below (sI HI660) hb); have n2_ := Aside0.mk (below_step (sB HB) hb); have n3_ := Aside0.mk (hbox); have n4_ := Aside0.mk ((by rw [hg]; exact (below_size (sB HB)) : w.heap.size ≤ gb666)); have n5_ := Aside0.mk ((by rw [hg]; exact (below_size (sB HB)) : w.heap.size ≤ gb666)); have n6_ := nlx hg BK656; have n7_ := ngx hg BK656; have n8_ := Aside0.mk ((by rw [hg]; exact Nat.ne_of_lt (IsS78.lt (show IsS78 w _ g660 t657 t664 t665 from sI HI660)) : g660 ≠ gb666)); have n9_ := Aside0.mk ((by rw [hg]; exact Nat.ne_of_gt (IsS78.lt (show IsS78 w _ g660 t657 t664 t665 from sI HI660)) : gb666 ≠ g660)); clear BK656; clear HI660; clear HB; have BK656 := n0_; have HI660 := n1_; have HB := n2_; have BK666 := n3_; have GW666 := n4_; have GE666 := n5_; have NB656_666 := n6_; have NB666_656 := n7_; have NB660_666 := n8_; have NB666_660 := n9_; clear n0_ n1_ n2_ n3_ n4_ n5_ n6_ n7_ n8_ n9_; clear hb hbox hg; have hnb9 := NB666_656.out; have hnc9 := NB656_666.out; have hnb10 := NB666_660.out; have hnc10 := NB660_666.out; have hcz11_0 : w8.cell? ⟨gb666, 0, none⟩ = some (.int .i64 0) := (blk_cell BK666.out 0).trans rfl; have hcz11_1 : w8.cell? ⟨gb666, 1, none⟩ = some (.int .i64 0) := (blk_cell BK666.out 1).trans rfl; have hfz11_0 := blk_frozen BK666.out 0; have hfz11_1 := blk_frozen BK666.out 1))
  have n0_ : Aside0 (((w8.setCell ⟨gb666, 0, none⟩ (.int .i64 t661)).setCell ⟨gb666, 1, none⟩ (.int .i64 t662)).heap[gb656]? = some (.cells #[.int .i64 0, .int .i64 0] 26 (0, 0))) := ⟨bF⟩
  have n1_ : Aside0 (((w8.setCell ⟨gb666, 0, none⟩ (.int .i64 t661)).setCell ⟨gb666, 1, none⟩ (.int .i64 t662)).heap[gb666]? = some (.cells #[.int .i64 t661, .int .i64 t662] 26 (0, 0))) := ⟨by (with_reducible repeat (first | refine g_d ?_ _ | refine g_e ?_ | refine g_a ?_ _)); refine blk_put (cs := #[.int .i64 t661, .int .i64 0]) ?_ 1 _ rfl; (with_reducible repeat (first | refine g_d ?_ _ | refine g_e ?_ | refine g_a ?_ _)); refine blk_put (cs := #[.int .i64 0, .int .i64 0]) ?_ 0 _ rfl; (with_reducible repeat (first | refine g_d ?_ _ | refine g_e ?_ | refine g_a ?_ _)); exact BK666.out⟩
  have n2_ : Aside0 (IsS78 w ((w8.setCell ⟨gb666, 0, none⟩ (.int .i64 t661)).setCell ⟨gb666, 1, none⟩ (.int .i64 t662)) g660 t657 t664 t665) := ⟨sI HI660⟩
  have n3_ : Aside0 (Below w.heap.size w ((w8.setCell ⟨gb666, 0, none⟩ (.int .i64 t661)).setCell ⟨gb666, 1, none⟩ (.int .i64 t662))) := ⟨sB HB⟩
  (try clear BK656)
  (try clear BK666)
  (try clear HI660)
  (try clear HB)
  generalize ((w8.setCell ⟨gb666, 0, none⟩ (.int .i64 t661)).setCell ⟨gb666, 1, none⟩ (.int .i64 t662)) = w12 at n0_ n1_ n2_ n3_ ⊢
  have BK656 := n0_
  have BK666 := n1_
  have HI660 := n2_
  have HB := n3_
  clear n0_ n1_ n2_ n3_
  have n0_ := Aside0.mk (g_e BK656.out)
  have n1_ := Aside0.mk (g_e BK666.out)
  have n2_ := Aside0.mk (IsS78.drew HI660.out)
  have n3_ := Aside0.mk (b_e HB.out)
  clear BK656
  clear BK666
  clear HI660
  clear HB
  have BK656 := n0_
  have BK666 := n1_
  have HI660 := n2_
  have HB := n3_
  clear n0_ n1_ n2_ n3_
  refine start_ (n := 8) (S := fun w' => w'.cell? ⟨gb666, 0, none⟩ = some (.int .i64 t661) ∧ w'.cell? ⟨gb666, 1, none⟩ = some (.int .i64 t662)) (ds := []) (bs_ 8 0) (by kernel_rfl) rfl rfl ⟨(blk_cell BK666.out 0).trans rfl, (blk_cell BK666.out 1).trans rfl⟩ (fun hHeld => ?_); refine with_tabW spec_DrawForthPart.tab3 spec_DrawForthPart.bits3 (fun HT_ HW_ => ?_)
  generalize w12.drew = w13 at BK656 BK666 HI660 HB hHeld ⊢
  refine pua 1 17 (bs_ 8 2) HT_ ?_
  refine pua 2 18 (bs_ 8 6) HT_ ?_
  refine tk_ 0 16 (bs_ 8 7) rfl rfl HT_ HW_ (by kernel_rfl) (fun _ _ _ h => h) (by rfl) hHeld (by rintro w' ⟨s0, s1⟩; go_simp; with_reducible rfl) (by simp only [Act.put, s_1, s_2, s_3, i64_w, i32_w]; rfl) ?_
  refine one_ (i := 3) (N := some 19) (bs_ 8 15) rfl rfl (one_of HT_.out (by kernel_rfl)) (by decide) (fun K hK => ?_)
  refine Kd.R_lit_step (Kd.int .i64) _ 3 ?hg (N := 19) ?hd (xs := ([0, 1, 3, 5, 9, 60, 61, (-1)] : List Int)) (inner := [.int .i64 0, .int .i64 1, .int .i64 3, .int .i64 5, .int .i64 9, .int .i64 60, .int .i64 61, .int .i64 (-1)]) (ok := fun _ => True) (okp := fun _ => True) ?hr ?hp (fun _ hk => hk) trivial (Below.refl _ _) (Nat.le_refl _) (by simp) ?_; (case hd => rfl); (case hg => rfl); (case hr => first | (go_simp; done) | (go_simp; rfl)); (case hp => exact (Reps.one (show Kd.M (Kd.int .i64) _ _ _ 0 [.int .i64 0] from rfl) (Reps.one (show Kd.M (Kd.int .i64) _ _ _ 1 [.int .i64 1] from rfl) (Reps.one (show Kd.M (Kd.int .i64) _ _ _ 3 [.int .i64 3] from rfl) (Reps.one (show Kd.M (Kd.int .i64) _ _ _ 5 [.int .i64 5] from rfl) (Reps.one (show Kd.M (Kd.int .i64) _ _ _ 9 [.int .i64 9] from rfl) (Reps.one (show Kd.M (Kd.int .i64) _ _ _ 60 [.int .i64 60] from rfl) (Reps.one (show Kd.M (Kd.int .i64) _ _ _ 61 [.int .i64 61] from rfl) (Reps.one (show Kd.M (Kd.int .i64) _ _ _ (-1) [.int .i64 (-1)] from rfl) (Reps.none _ _))))))))))
  intro v668 w14 ho15 hb hg_ hnew_
  clear hg_ hnew_
  (first | rw [← Ny667.out] at ho15 | (simp only [Int.reduceToNat] at ho15; rw [← Ny667.out] at ho15))
  have n0_ := Aside0.mk (Kd.R_lower ho15 (below_size (sB HB)))
  have n1_ := bbx hb BK656
  have n2_ := Aside0.mk (IsS78.below (sI HI660) hb)
  have n3_ := bbx hb BK666
  have n4_ := Aside0.mk (below_step (sB HB) hb)
  clear BK656
  clear HI660
  clear BK666
  clear HB
  have HO669 := n0_
  have BK656 := n1_
  have HI660 := n2_
  have BK666 := n3_
  have HB := n4_
  clear n0_ n1_ n2_ n3_ n4_
  clear hb ho15
  obtain ⟨Ao16, co16, eo16⟩ := Kd.R_slice HO669.out
  (first | subst eo16 | (injection eo16 with f1_ f2_ f3_; have f4_ := f1_.symm; have f5_ := f3_.symm; clear f1_ f2_ f3_; subst f4_; subst f5_))
  refine hK.out _ _ ⟨(blk_cell BK666.out 0).trans rfl, (blk_cell BK666.out 1).trans rfl⟩ (fun hHeld => ?_)
  clear hK K
  refine norm_ (a' := ?_) ?_ ?_
  rotate_left
  · show Act.put _ (some 19) _ = _
    simp only [Act.put, s_1, s_2, s_3, i64_w, i32_w]
    rfl
  refine one_ (i := 4) (N := some 20) (bs_ 8 31) rfl rfl (one_of HT_.out (by kernel_rfl)) (by decide) (fun K hK => ?_)
  refine goes_ Try.func60 (by kernel_rfl) rfl #[.pointer (some ⟨g660, 0, none⟩), .slice Ao16 y667.length co16] (by rfl) rfl rfl (by (try simp only [m_1, m_2, m_3]); first | done | rfl | (simp only [m_4, m_5]; rfl)) ?_
  with_reducible refine (spec_l1Cur_among.calls g660 t657 t664 t665 _ _ y667 t670 t671 t672 w _ ?side1 ?side2 ?side3 ?side4 ?side5 A4.out).mono ?_
  (case side1 => exact sI HI660)
  (case side2 => exact sB HB)
  (case side3 => repeat (first | exact (Kd.R_reads' HO669.out).2.2 | (with_reducible refine Kd.C_alloc ?_ _) | (with_reducible refine Kd.C_drewN ?_ _) | (with_reducible refine Kd.C_drew ?_)))
  (case side4 => exact (Kd.R_reads' HO669.out).2.1)
  (case side5 => exact far_slice (IsS78.own_ne HI660.out HO669.out (by decide)))
  rintro e w17 ⟨rfl, hi, hb, hk⟩
  refine ⟨_, rfl, ?_⟩
  have n0_ := Aside0.mk (KeepBut.blk hk (bK BK656) NB656_660.out (by simp))
  have n1_ := Aside0.mk (KeepBut.blk hk (bK BK666) NB666_660.out (by simp))
  have n2_ := Aside0.mk (Kd.R_mono (Kd.R_keep (IsS78.apart (show IsS78 w _ g660 t657 t664 t665 from sI HI660) (by (with_reducible repeat (first | apply r_a | apply r_d | apply r_e)); exact HO669.out) (by decide)) hk (fun _ h => h.2)) (fun _ h => h.1))
  have n3_ := Aside0.mk (hb)
  have n4_ := Aside0.mk (hi)
  clear BK656
  clear BK666
  clear HO669
  clear HB
  clear HI660
  have BK656 := n0_
  have BK666 := n1_
  have HO669 := n2_
  have HB := n3_
  have HI660 := n4_
  clear n0_ n1_ n2_ n3_ n4_
  (try clear hb)
  (try clear hb2)
  (try clear hk)
  (try clear hi)
  refine hK.out _ _ ⟨(blk_cell BK666.out 0).trans rfl, (blk_cell BK666.out 1).trans rfl⟩ (fun hHeld => ?_)
  clear hK K
  refine norm_ (a' := ?_) ?_ ?_
  rotate_left
  · show Act.put _ (some 20) _ = _
    simp only [Act.put, s_1, s_2, s_3, i64_w, i32_w]
    rfl
  refine one_ (i := 5) (N := none) (bs_ 8 63) rfl rfl (one_of HT_.out (by kernel_rfl)) (by decide) (fun K hK => ?_)
  have hs18 : w17.cell? ⟨gb656, 0, none⟩ = some (.int .i64 0) := (blk_cell BK656.out 0).trans rfl
  have hfs18 := blk_frozen BK656.out 0
  have hns18_1 := NB666_656.out
  have hms18_1 := NB656_666.out
  have hs19 : w17.cell? ⟨gb656, 1, none⟩ = some (.int .i64 0) := (blk_cell BK656.out 1).trans rfl
  have hfs19 := blk_frozen BK656.out 1
  have hns19_1 := NB666_656.out
  have hms19_1 := NB656_666.out
  refine skip_ (w1 := ?_) (by rfl) rfl ?_ ?_
  rotate_left
  · go_simp
    rfl
  refine hK.out _ _ ⟨((cell_far (p := ⟨gb656, _, none⟩) NB666_656.out _).trans (((cell_far (p := ⟨gb656, _, none⟩) NB666_656.out _).trans (hHeld.1)))), ((cell_far (p := ⟨gb656, _, none⟩) NB666_656.out _).trans (((cell_far (p := ⟨gb656, _, none⟩) NB666_656.out _).trans (hHeld.2))))⟩ (fun hHeld => ?_)
  clear hK K
  refine pua 6 3 (bs_ 8 127) HT_ ?_
  refine pua 7 4 (bs_ 8 255) HT_ ?_
  refine done_ (done_of HT_.out (by kernel_rfl)) ?_
  try go_wp2
  refine bodyPost_ret (results_ctt rfl _ _ gb656 26 #[.int .i64 t661, .int .i64 t662] (0, 0) _ rfl (by (with_reducible repeat (first | refine g_d ?_ _ | refine g_e ?_ | refine g_a ?_ _)); refine blk_put (cs := #[.int .i64 t661, .int .i64 0]) ?_ 1 _ rfl; (with_reducible repeat (first | refine g_d ?_ _ | refine g_e ?_ | refine g_a ?_ _)); refine blk_put (cs := #[.int .i64 0, .int .i64 0]) ?_ 0 _ rfl; (with_reducible repeat (first | refine g_d ?_ _ | refine g_e ?_ | refine g_a ?_ _)); exact BK656.out) Try.underlying26 rfl (by kernel_rfl)) rfl ?_
  exact ⟨by first | rfl | (simp [errW_none, errW_some] <;> rfl) | (simp [*, errW_none, errW_some] <;> rfl), sB HB⟩

/-! ### spec_DrawIsLock: function 61 -/
def spec_DrawIsLock.f (l0 : List Int) : Option (Int × Int) := (spec_newCur.f l0).bind fun bt674 => ((spec_l1Cur_lock.f bt674.1 bt674.2.1 bt674.2.2).bind fun bt678 => (some (bt678.1, bt678.2.1)))
set_option maxHeartbeats 8000000 in
set_option maxRecDepth 100000 in
theorem spec_DrawIsLock.calls (A0 : Option Addr) (c0 : Nat) (l0 : List Int) (r1 : Int) (r2 : Int) (w : World) (hr0 : Kd.C (Kd.int .u8) w A0 l0.length l0) (hc0 : l0.length ≤ c0) (h : spec_DrawIsLock.f l0 = some (r1, r2)) :
    Calls Try.prog 61 #[.slice A0 l0.length c0] w fun e w' => e = .returned (.agg #[.int .i64 r1, .int .i64 r2]) ∧ Below w.heap.size w w' := by
  have hu26 := Try.underlying26
  have HR0 := Aside0.mk hr0
  have HC0 := Aside0.mk hc0
  clear hr0 hc0
  have HB := Aside0.mk (Below.refl w.heap.size w)
  have H : ((spec_newCur.f l0).bind fun bt674 => ((spec_l1Cur_lock.f bt674.1 bt674.2.1 bt674.2.2).bind fun bt678 => (some (bt678.1, bt678.2.1)))) = some (r1, r2) := h
  clear h
  replace H := Option.bind_eq_some_iff.mp H
  obtain ⟨⟨t674, t675, t676⟩, A20, H⟩ := H
  try dsimp only at H
  have A2 := Aside0.mk A20
  clear A20
  replace H := Option.bind_eq_some_iff.mp H
  obtain ⟨⟨t678, t679, t680, t681⟩, A30, H⟩ := H
  try dsimp only at H
  have A3 := Aside0.mk A30
  clear A30
  simp only [Option.some.injEq, Prod.mk.injEq] at H
  obtain ⟨rfl, rfl⟩ := H
  have hu78 := Try.underlying78
  go_enter Try.func61, Try.ntmps61
  go_wp2_with (first | ((with_reducible refine gate_dst (N := 2) rfl ?_); refine box_event ?hg (N := 2) ?hd (cs := #[.int .i64 0, .int .i64 0]) (t := 26) ?hr ?_; (case hd => rfl); (case hg => rfl); (case hr => first | (go_simp; done) | (go_simp; rfl)); intro gb673 hg w4 hbox hb; have n0_ := bsx hb HB; have n1_ := Aside0.mk (hbox); have n2_ := gwx hg HB; have n3_ := n2_; clear HB; have HB := n0_; have BK673 := n1_; have GW673 := n2_; have GE673 := n3_; clear n0_ n1_ n2_ n3_; clear hb hbox hg) | ((with_reducible refine gate_dst (N := 6) rfl ?_); refine box_event ?hg (N := 6) ?hd (cs := #[.slice A0 l0.length c0, .int .i64 0, .int .u64 0]) (t := 78) ?hr ?_; (case hd => rfl); (case hg => rfl); (case hr => first | (go_simp; done) | (go_simp; rfl)); intro g677 hg w5 hbox hb2; have hi : IsS78 w w5 g677 t674 t675 t676 := spec_newCur.is A2.out hbox (by rw [hg]; exact (below_size (bB HB))) HR0.out; have hb := below_step (bB HB) hb2; clear hbox hg; have n0_ := Aside0.mk (blk_below (g := gb673) (o := .cells #[.int .i64 0, .int .i64 0] 26 (0, 0)) (bK BK673) hb2); have n1_ := Aside0.mk (hb); have n2_ := Aside0.mk (hi); have n3_ := Aside0.mk (IsS78.ne_blk hi (blk_below (g := gb673) (o := .cells #[.int .i64 0, .int .i64 0] 26 (0, 0)) (bK BK673) hb2) (by decide)); have n4_ := Aside0.mk (Ne.symm (IsS78.ne_blk hi (blk_below (g := gb673) (o := .cells #[.int .i64 0, .int .i64 0] 26 (0, 0)) (bK BK673) hb2) (by decide))); clear BK673; clear HB; have BK673 := n0_; have HB := n1_; have HI677 := n2_; have NB677_673 := n3_; have NB673_677 := n4_; clear n0_ n1_ n2_ n3_ n4_; (try clear hb); (try clear hb2); (try clear hk); (try clear hi)) | ((with_reducible refine gate_callee (f := 76) rfl ?_); refine goesL_ (some 8) rfl rfl Try.func76 (by kernel_rfl) rfl #[.pointer (some ⟨g677, 0, none⟩)] rfl (by (try simp only [m_1, m_2, m_3]); first | done | rfl | (simp only [m_4, m_5]; rfl)) ?_; (with_reducible refine (spec_l1Cur_lock.calls g677 t674 t675 t676 t678 t679 t680 t681 w _ ?side1 ?side2 A3.out).mono ?_); (case side1 => exact sI HI677); (case side2 => exact sB HB); rintro e w6 ⟨rfl, hi, hb, hk⟩; refine ⟨_, rfl, ?_⟩; have n0_ := Aside0.mk (KeepBut.blk hk (bK BK673) NB673_677.out (by simp)); have n1_ := Aside0.mk (hb); have n2_ := Aside0.mk (hi); clear BK673; clear HB; clear HI677; have BK673 := n0_; have HB := n1_; have HI677 := n2_; clear n0_ n1_ n2_; (try clear hb); (try clear hb2); (try clear hk); (try clear hi); have hnb7 := NB673_677.out; have hnc7 := NB677_673.out; have hcz8_0 := cz0 BK673; have hcz8_1 := cz1 BK673; have hfz8_0 := blk_frozen BK673.out 0; have hfz8_1 := blk_frozen BK673.out 1))
  refine bodyPost_ret (results_cell_row rfl _ _ gb673 26 #[.int .i64 t678, .int .i64 t679] (0, 0) _ rfl (by (with_reducible repeat (first | refine g_d ?_ _ | refine g_e ?_ | refine g_a ?_ _)); refine blk_put (cs := #[.int .i64 t678, .int .i64 0]) ?_ 1 _ rfl; (with_reducible repeat (first | refine g_d ?_ _ | refine g_e ?_ | refine g_a ?_ _)); refine blk_put (cs := #[.int .i64 0, .int .i64 0]) ?_ 0 _ rfl; (with_reducible repeat (first | refine g_d ?_ _ | refine g_e ?_ | refine g_a ?_ _)); exact BK673.out) Try.underlying26 rfl (by kernel_rfl)) rfl ?_
  exact ⟨by first | rfl | (simp [errW_none, errW_some] <;> rfl) | (simp [*, errW_none, errW_some] <;> rfl), sB HB⟩

/-! ### spec_DrawWheelTurns: function 34 -/
def spec_DrawWheelTurns.f (l0 : List Int) : Option (Int × Int) := (spec_DrawIsLock.f l0).bind fun bt683 => (some (bt683.1, bt683.2))
set_option maxHeartbeats 8000000 in
set_option maxRecDepth 100000 in
theorem spec_DrawWheelTurns.calls (A0 : Option Addr) (c0 : Nat) (l0 : List Int) (r1 : Int) (r2 : Int) (w : World) (hr0 : Kd.C (Kd.int .u8) w A0 l0.length l0) (hc0 : l0.length ≤ c0) (h : spec_DrawWheelTurns.f l0 = some (r1, r2)) :
    Calls Try.prog 34 #[.slice A0 l0.length c0] w fun e w' => e = .returned (.agg #[.int .i64 r1, .int .i64 r2]) ∧ Below w.heap.size w w' := by
  have hu26 := Try.underlying26
  have HR0 := Aside0.mk hr0
  have HC0 := Aside0.mk hc0
  clear hr0 hc0
  have HB := Aside0.mk (Below.refl w.heap.size w)
  have H : ((spec_DrawIsLock.f l0).bind fun bt683 => (some (bt683.1, bt683.2))) = some (r1, r2) := h
  clear h
  replace H := Option.bind_eq_some_iff.mp H
  obtain ⟨⟨t683, t684⟩, A20, H⟩ := H
  try dsimp only at H
  have A2 := Aside0.mk A20
  clear A20
  simp only [Option.some.injEq, Prod.mk.injEq] at H
  obtain ⟨rfl, rfl⟩ := H
  go_enter Try.func34, Try.ntmps34
  go_wp2_with (first | ((with_reducible refine gate_dst (N := 2) rfl ?_); refine box_event ?hg (N := 2) ?hd (cs := #[.int .i64 0, .int .i64 0]) (t := 26) ?hr ?_; (case hd => rfl); (case hg => rfl); (case hr => first | (go_simp; done) | (go_simp; rfl)); intro gb682 hg w3 hbox hb; have n0_ := bsx hb HB; have n1_ := Aside0.mk (hbox); have n2_ := gwx hg HB; have n3_ := n2_; clear HB; have HB := n0_; have BK682 := n1_; have GW682 := n2_; have GE682 := n3_; clear n0_ n1_ n2_ n3_; clear hb hbox hg) | ((with_reducible refine gate_callee (f := 61) rfl ?_); refine goesL_ (some 4) rfl rfl Try.func61 (by kernel_rfl) rfl #[.slice A0 l0.length c0] rfl (by (try simp only [m_1, m_2, m_3]); first | done | rfl | (simp only [m_4, m_5]; rfl)) ?_; (with_reducible refine (spec_DrawIsLock.calls _ _ l0 t683 t684 _ ?side1 ?side2 A2.out).mono ?_); (case side1 => repeat (first | exact (Kd.C_below HR0.out HB.out) | (with_reducible refine Kd.C_alloc ?_ _) | (with_reducible refine Kd.C_drewN ?_ _) | (with_reducible refine Kd.C_drew ?_))); (case side2 => exact HC0.out); rintro e w4 ⟨rfl, hb⟩; refine ⟨_, rfl, ?_⟩; replace BK682 := bbx hb BK682; replace HB := bsx hb HB; skip; (try clear hb); (try clear hb2); (try clear hk); (try clear hi); have hcz5_0 := cz0 BK682; have hcz5_1 := cz1 BK682; have hfz5_0 := blk_frozen BK682.out 0; have hfz5_1 := blk_frozen BK682.out 1))
  refine bodyPost_ret (results_cell_row rfl _ _ gb682 26 #[.int .i64 t683, .int .i64 t684] (0, 0) _ rfl (by (with_reducible repeat (first | refine g_d ?_ _ | refine g_e ?_ | refine g_a ?_ _)); refine blk_put (cs := #[.int .i64 t683, .int .i64 0]) ?_ 1 _ rfl; (with_reducible repeat (first | refine g_d ?_ _ | refine g_e ?_ | refine g_a ?_ _)); refine blk_put (cs := #[.int .i64 0, .int .i64 0]) ?_ 0 _ rfl; (with_reducible repeat (first | refine g_d ?_ _ | refine g_e ?_ | refine g_a ?_ _)); exact BK682.out) Try.underlying26 rfl (by kernel_rfl)) rfl ?_
  exact ⟨by first | rfl | (simp [errW_none, errW_some] <;> rfl) | (simp [*, errW_none, errW_some] <;> rfl), bB HB⟩

end Go.Proofs.Ytijbngmlaggclaa.P
