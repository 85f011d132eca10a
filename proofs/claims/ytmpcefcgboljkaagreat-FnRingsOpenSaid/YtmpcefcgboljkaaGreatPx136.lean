-- Texts of this session's own program (wip/dr.py), which runs the kit's printer.
import Derived.Test.YtmpcefcgboljkaaGreatPx0
import Derived.Test.YtmpcefcgboljkaaGreatPx22
import Derived.Test.YtmpcefcgboljkaaGreatPx27
import Derived.Test.YtmpcefcgboljkaaGreatPx66
import Derived.Test.YtmpcefcgboljkaaGreatPx103
namespace Go.Proofs.YtmpcefcgboljkaaGreat.P
open Go.RowKit Go.Proofs.YtmpcefcgboljkaaGreatW.PrintWords Go.Proofs.YtmpcefcgboljkaaGreatW.PrintLast Go.Proofs.YtmpcefcgboljkaaGreatW.PrintMore
attribute [local go_sem] max2_int min2_int max_two min_two max_three min_three max_four min_four   -- for this text's walks alone
set_option linter.unusedVariables false
set_option linter.unusedSimpArgs false

/-! ### spec_DrawLeastRing: function 46 -/
def spec_DrawLeastRing.f (l0 : List Int) : Option (Int × Int) := (spec_newCur.f l0).bind fun bt880 => ((spec_l1Cur_lock.f bt880.1 bt880.2.1 bt880.2.2).bind fun bt884 => (some (bt884.1, bt884.2.1)))
set_option maxHeartbeats 8000000 in
set_option maxRecDepth 100000 in
theorem spec_DrawLeastRing.calls (A0 : Option Addr) (c0 : Nat) (l0 : List Int) (r1 : Int) (r2 : Int) (w : World) (hr0 : Kd.C (Kd.int .u8) w A0 l0.length l0) (hc0 : l0.length ≤ c0) (h : spec_DrawLeastRing.f l0 = some (r1, r2)) :
    Calls Tryz.prog 46 #[.slice A0 l0.length c0] w fun e w' => e = .returned (.agg #[.int .i64 r1, .int .i64 r2]) ∧ Below w.heap.size w w' := by
  have hu23 := Tryz.underlying23
  have HR0 := Aside0.mk hr0
  have HC0 := Aside0.mk hc0
  clear hr0 hc0
  have HB := Aside0.mk (Below.refl w.heap.size w)
  have H : ((spec_newCur.f l0).bind fun bt880 => ((spec_l1Cur_lock.f bt880.1 bt880.2.1 bt880.2.2).bind fun bt884 => (some (bt884.1, bt884.2.1)))) = some (r1, r2) := h
  clear h
  replace H := Option.bind_eq_some_iff.mp H
  obtain ⟨⟨t880, t881, t882⟩, A20, H⟩ := H
  try dsimp only at H
  have A2 := Aside0.mk A20
  clear A20
  replace H := Option.bind_eq_some_iff.mp H
  obtain ⟨⟨t884, t885, t886, t887⟩, A30, H⟩ := H
  try dsimp only at H
  have A3 := Aside0.mk A30
  clear A30
  simp only [Option.some.injEq, Prod.mk.injEq] at H
  obtain ⟨rfl, rfl⟩ := H
  have hu81 := Tryz.underlying81
  go_enter Tryz.func46, Tryz.ntmps46
  go_wp2_with (first | ((with_reducible refine gate_dst (N := 2) rfl ?_); refine box_event ?hg (N := 2) ?hd (cs := #[.int .i64 0, .int .i64 0]) (t := 23) ?hr ?_; (case hd => rfl); (case hg => rfl); (case hr => first | (go_simp; done) | (go_simp; rfl)); intro gb879 hg w4 hbox hb; have n0_ := bsx hb HB; have n1_ := Aside0.mk (hbox); have n2_ := gwx hg HB; have n3_ := n2_; clear HB; have HB := n0_; have BK879 := n1_; have GW879 := n2_; have GE879 := n3_; clear n0_ n1_ n2_ n3_; clear hb hbox hg) | ((with_reducible refine gate_dst (N := 6) rfl ?_); refine box_event ?hg (N := 6) ?hd (cs := #[.slice A0 l0.length c0, .int .i64 0, .int .u64 0]) (t := 81) ?hr ?_; (case hd => rfl); (case hg => rfl); (case hr => first | (go_simp; done) | (go_simp; rfl)); intro g883 hg w5 hbox hb2; have hi : IsS81 w w5 g883 t880 t881 t882 := spec_newCur.is A2.out hbox (by rw [hg]; exact (below_size (bB HB))) HR0.out; have hb := below_step (bB HB) hb2; clear hbox hg; have n0_ := Aside0.mk (blk_below (g := gb879) (o := .cells #[.int .i64 0, .int .i64 0] 23 (0, 0)) (bK BK879) hb2); have n1_ := Aside0.mk (hb); have n2_ := Aside0.mk (hi); have n3_ := Aside0.mk (IsS81.ne_blk hi (blk_below (g := gb879) (o := .cells #[.int .i64 0, .int .i64 0] 23 (0, 0)) (bK BK879) hb2) (by decide)); have n4_ := Aside0.mk (Ne.symm (IsS81.ne_blk hi (blk_below (g := gb879) (o := .cells #[.int .i64 0, .int .i64 0] 23 (0, 0)) (bK BK879) hb2) (by decide))); clear BK879; clear HB; have BK879 := n0_; have HB := n1_; have HI883 := n2_; have NB883_879 := n3_; have NB879_883 := n4_; clear n0_ n1_ n2_ n3_ n4_; (try clear hb); (try clear hb2); (try clear hk); (try clear hi)) | ((with_reducible refine gate_callee (f := 87) rfl ?_); refine goesL_ (some 8) rfl rfl Tryz.func87 (by kernel_rfl) rfl #[.pointer (some ⟨g883, 0, none⟩)] rfl (by (try simp only [m_1, m_2, m_3]); first | done | rfl | (simp only [m_4, m_5]; rfl)) ?_; (with_reducible refine (spec_l1Cur_lock.calls g883 t880 t881 t882 t884 t885 t886 t887 w _ ?side1 ?side2 A3.out).mono ?_); (case side1 => exact sI HI883); (case side2 => exact sB HB); rintro e w6 ⟨rfl, hi, hb, hk⟩; refine ⟨_, rfl, ?_⟩; have n0_ := Aside0.mk (KeepBut.blk hk (bK BK879) NB879_883.out (by simp)); have n1_ := Aside0.mk (hb); have n2_ := Aside0.mk (hi); clear BK879; clear HB; clear HI883; have BK879 := n0_; have HB := n1_; have HI883 := n2_; clear n0_ n1_ n2_; (try clear hb); (try clear hb2); (try clear hk); (try clear hi); have hnb7 := NB879_883.out; have hnc7 := NB883_879.out; have hcz8_0 := cz0 BK879; have hcz8_1 := cz1 BK879; have hfz8_0 := blk_frozen BK879.out 0; have hfz8_1 := blk_frozen BK879.out 1))
  refine bodyPost_ret (results_cell_row rfl _ _ gb879 23 #[.int .i64 t884, .int .i64 t885] (0, 0) _ rfl (by (with_reducible repeat (first | refine g_d ?_ _ | refine g_e ?_ | refine g_a ?_ _)); refine blk_put (cs := #[.int .i64 t884, .int .i64 0]) ?_ 1 _ rfl; (with_reducible repeat (first | refine g_d ?_ _ | refine g_e ?_ | refine g_a ?_ _)); refine blk_put (cs := #[.int .i64 0, .int .i64 0]) ?_ 0 _ rfl; (with_reducible repeat (first | refine g_d ?_ _ | refine g_e ?_ | refine g_a ?_ _)); exact BK879.out) Tryz.underlying23 rfl (by kernel_rfl)) rfl ?_
  exact ⟨by first | rfl | (simp [errW_none, errW_some] <;> rfl) | (simp [*, errW_none, errW_some] <;> rfl), sB HB⟩

/-! ### spec_DrawCountLeastWords: function 47 -/
def spec_DrawCountLeastWords.f (l0 : List Int) : Option (Int × Int × Int) := (spec_newCur.f l0).bind fun bt889 => ((spec_l1Cur_lock.f bt889.1 bt889.2.1 bt889.2.2).bind fun bt893 => ((spec_l1Cur_pick.f bt889.1 bt893.2.2.1 bt893.2.2.2 15).bind fun bt897 => ((spec_l1Cur_pick.f bt889.1 bt897.2.1 bt897.2.2 9).bind fun bt900 => (some (bt893.1, bt893.2.1, wrap64 (bt897.1 - (wrap64 (Int.tdiv bt900.1 8))))))))
set_option maxHeartbeats 8000000 in
set_option maxRecDepth 100000 in
theorem spec_DrawCountLeastWords.calls (A0 : Option Addr) (c0 : Nat) (l0 : List Int) (r1 : Int) (r2 : Int) (r3 : Int) (w : World) (hr0 : Kd.C (Kd.int .u8) w A0 l0.length l0) (hc0 : l0.length ≤ c0) (h : spec_DrawCountLeastWords.f l0 = some (r1, r2, r3)) :
    Calls Tryz.prog 47 #[.slice A0 l0.length c0] w fun e w' => e = .returned (.tuple #[.agg #[.int .i64 r1, .int .i64 r2], .int .i64 r3]) ∧ Below w.heap.size w w' := by
  have hu23 := Tryz.underlying23
  have HR0 := Aside0.mk hr0
  have HC0 := Aside0.mk hc0
  clear hr0 hc0
  have HB := Aside0.mk (Below.refl w.heap.size w)
  have H : ((spec_newCur.f l0).bind fun bt889 => ((spec_l1Cur_lock.f bt889.1 bt889.2.1 bt889.2.2).bind fun bt893 => ((spec_l1Cur_pick.f bt889.1 bt893.2.2.1 bt893.2.2.2 15).bind fun bt897 => ((spec_l1Cur_pick.f bt889.1 bt897.2.1 bt897.2.2 9).bind fun bt900 => (some (bt893.1, bt893.2.1, wrap64 (bt897.1 - (wrap64 (Int.tdiv bt900.1 8))))))))) = some (r1, r2, r3) := h
  clear h
  replace H := Option.bind_eq_some_iff.mp H
  obtain ⟨⟨t889, t890, t891⟩, A20, H⟩ := H
  try dsimp only at H
  have A2 := Aside0.mk A20
  clear A20
  replace H := Option.bind_eq_some_iff.mp H
  obtain ⟨⟨t893, t894, t895, t896⟩, A30, H⟩ := H
  try dsimp only at H
  have A3 := Aside0.mk A30
  clear A30
  replace H := Option.bind_eq_some_iff.mp H
  obtain ⟨⟨t897, t898, t899⟩, A40, H⟩ := H
  try dsimp only at H
  have A4 := Aside0.mk A40
  clear A40
  replace H := Option.bind_eq_some_iff.mp H
  obtain ⟨⟨t900, t901, t902⟩, A50, H⟩ := H
  try dsimp only at H
  have A5 := Aside0.mk A50
  clear A50
  simp only [Option.some.injEq, Prod.mk.injEq] at H
  obtain ⟨rfl, rfl, rfl⟩ := H
  have hu81 := Tryz.underlying81
  go_enter Tryz.func47, Tryz.ntmps47
  go_wp2_with (first | ((with_reducible refine gate_dst (N := 2) rfl ?_); refine box_event ?hg (N := 2) ?hd (cs := #[.int .i64 0, .int .i64 0]) (t := 23) ?hr ?_; (case hd => rfl); (case hg => rfl); (case hr => first | (go_simp; done) | (go_simp; rfl)); intro gb888 hg w6 hbox hb; have n0_ := bsx hb HB; have n1_ := Aside0.mk (hbox); have n2_ := gwx hg HB; have n3_ := n2_; clear HB; have HB := n0_; have BK888 := n1_; have GW888 := n2_; have GE888 := n3_; clear n0_ n1_ n2_ n3_; clear hb hbox hg) | ((with_reducible refine gate_dst (N := 7) rfl ?_); refine box_event ?hg (N := 7) ?hd (cs := #[.slice A0 l0.length c0, .int .i64 0, .int .u64 0]) (t := 81) ?hr ?_; (case hd => rfl); (case hg => rfl); (case hr => first | (go_simp; done) | (go_simp; rfl)); intro g892 hg w7 hbox hb2; have hi : IsS81 w w7 g892 t889 t890 t891 := spec_newCur.is A2.out hbox (by rw [hg]; exact (below_size (bB HB))) HR0.out; have hb := below_step (bB HB) hb2; clear hbox hg; have n0_ := Aside0.mk (blk_below (g := gb888) (o := .cells #[.int .i64 0, .int .i64 0] 23 (0, 0)) (bK BK888) hb2); have n1_ := Aside0.mk (hb); have n2_ := Aside0.mk (hi); have n3_ := Aside0.mk (IsS81.ne_blk hi (blk_below (g := gb888) (o := .cells #[.int .i64 0, .int .i64 0] 23 (0, 0)) (bK BK888) hb2) (by decide)); have n4_ := Aside0.mk (Ne.symm (IsS81.ne_blk hi (blk_below (g := gb888) (o := .cells #[.int .i64 0, .int .i64 0] 23 (0, 0)) (bK BK888) hb2) (by decide))); clear BK888; clear HB; have BK888 := n0_; have HB := n1_; have HI892 := n2_; have NB892_888 := n3_; have NB888_892 := n4_; clear n0_ n1_ n2_ n3_ n4_; (try clear hb); (try clear hb2); (try clear hk); (try clear hi)) | ((with_reducible refine gate_callee (f := 87) rfl ?_); refine goesL_ (some 9) rfl rfl Tryz.func87 (by kernel_rfl) rfl #[.pointer (some ⟨g892, 0, none⟩)] rfl (by (try simp only [m_1, m_2, m_3]); first | done | rfl | (simp only [m_4, m_5]; rfl)) ?_; (with_reducible refine (spec_l1Cur_lock.calls g892 t889 t890 t891 t893 t894 t895 t896 w _ ?side1 ?side2 A3.out).mono ?_); (case side1 => exact sI HI892); (case side2 => exact sB HB); rintro e w8 ⟨rfl, hi, hb, hk⟩; refine ⟨_, rfl, ?_⟩; have n0_ := Aside0.mk (KeepBut.blk hk (bK BK888) NB888_892.out (by simp)); have n1_ := Aside0.mk (hb); have n2_ := Aside0.mk (hi); clear BK888; clear HB; clear HI892; have BK888 := n0_; have HB := n1_; have HI892 := n2_; clear n0_ n1_ n2_; (try clear hb); (try clear hb2); (try clear hk); (try clear hi)) | ((with_reducible refine gate_callee (f := 85) rfl ?_); refine goesL_ (some 11) rfl rfl Tryz.func85 (by kernel_rfl) rfl #[.pointer (some ⟨g892, 0, none⟩), .int .i64 15] rfl (by (try simp only [m_1, m_2, m_3]); first | done | rfl | (simp only [m_4, m_5]; rfl)) ?_; (with_reducible refine (spec_l1Cur_pick.calls g892 t889 t895 t896 15 t897 t898 t899 w _ ?side1 ?side2 A4.out).mono ?_); (case side1 => exact sI HI892); (case side2 => exact sB HB); rintro e w9 ⟨rfl, hi, hb, hk⟩; refine ⟨_, rfl, ?_⟩; have n0_ := Aside0.mk (KeepBut.blk hk (bK BK888) NB888_892.out (by simp)); have n1_ := Aside0.mk (hb); have n2_ := Aside0.mk (hi); clear BK888; clear HB; clear HI892; have BK888 := n0_; have HB := n1_; have HI892 := n2_; clear n0_ n1_ n2_; (try clear hb); (try clear hb2); (try clear hk); (try clear hi)) | ((with_reducible refine gate_callee (f := 85) rfl ?_); refine goesL_ (some 13) rfl rfl Tryz.func85 (by kernel_rfl) rfl #[.pointer (some ⟨g892, 0, none⟩), .int .i64 9] rfl (by (try simp only [m_1, m_2, m_3]); first | done | rfl | (simp only [m_4, m_5]; rfl)) ?_; (with_reducible refine (spec_l1Cur_pick.calls g892 t889 t898 t899 9 t900 t901 t902 w _ ?side1 ?side2 A5.out).mono ?_); (case side1 => exact sI HI892); (case side2 => exact sB HB); rintro e w10 ⟨rfl, hi, hb, hk⟩; refine ⟨_, rfl, ?_⟩; have n0_ := Aside0.mk (KeepBut.blk hk (bK BK888) NB888_892.out (by simp)); have n1_ := Aside0.mk (hb); have n2_ := Aside0.mk (hi); clear BK888; clear HB; clear HI892; have BK888 := n0_; have HB := n1_; have HI892 := n2_; clear n0_ n1_ n2_; (try clear hb); (try clear hb2); (try clear hk); (try clear hi); have hnb11 := NB888_892.out; have hnc11 := NB892_888.out; have hcz12_0 := cz0 BK888; have hcz12_1 := cz1 BK888; have hfz12_0 := blk_frozen BK888.out 0; have hfz12_1 := blk_frozen BK888.out 1))
  refine bodyPost_ret (results_ct rfl _ _ gb888 23 #[.int .i64 t893, .int .i64 t894] (0, 0) _ rfl (by (with_reducible repeat (first | refine g_d ?_ _ | refine g_e ?_ | refine g_a ?_ _)); refine blk_put (cs := #[.int .i64 t893, .int .i64 0]) ?_ 1 _ rfl; (with_reducible repeat (first | refine g_d ?_ _ | refine g_e ?_ | refine g_a ?_ _)); refine blk_put (cs := #[.int .i64 0, .int .i64 0]) ?_ 0 _ rfl; (with_reducible repeat (first | refine g_d ?_ _ | refine g_e ?_ | refine g_a ?_ _)); exact BK888.out) Tryz.underlying23 rfl (by kernel_rfl)) rfl ?_
  exact ⟨by first | rfl | (simp [errW_none, errW_some] <;> rfl) | (simp [*, errW_none, errW_some] <;> rfl), sB HB⟩

/-! ### spec_l1Cur_digits: function 90 -/
mutual
def spec_l1Cur_digits.l0 : Nat → ByteArray → Int → List Int → Int → Int → Int → Int → Option (Int × Int × ByteArray × Int × Int)
  | 0, _, _, _, _, _, _, _ => none
  | k + 1, x5, x6, x1000, x1001, x1002, x909000, x909001 => if x6 > 0 then ((spec_l1Most.f 1 x909001).bind fun t912 => ((spec_l1Least.f 10 t912).bind fun t913 => ((spec_l1Cur_pick.f x1000 x1001 x1002 t913).bind fun bt914 => ((spec_l1Num.f k bt914.1).bind fun t917 => (if x5.size + t917.size ≤ 9223372036854775807 then (spec_l1Cur_digits.l0 k (x5 ++ t917) (wrap64 (x6 - 1)) x1000 bt914.2.1 bt914.2.2 x909000 x909001) else (none)))))) else ((spec_l1Cur_pick.f x1000 x1001 x1002 14).bind fun bt918 => (if bt918.1 = 0 then ((spec_l1Cur_of.f x1000 bt918.2.1 bt918.2.2 (([(⟨#[120]⟩ : ByteArray), (⟨#[57]⟩ : ByteArray), (⟨#[45]⟩ : ByteArray)] : List ByteArray))).bind fun bt924 => (if x5.size + bt924.1.size ≤ 9223372036854775807 then (some (x909000, x909001, x5 ++ bt924.1, bt924.2.1, bt924.2.2)) else (none))) else (if bt918.1 = 1 then (spec_l1Cur_digits.j1 k x5 (bt918.1 == 1) x1000 bt918.2.1 bt918.2.2 x909000 x909001) else (spec_l1Cur_digits.j1 k x5 (bt918.1 == 2) x1000 bt918.2.1 bt918.2.2 x909000 x909001))))
def spec_l1Cur_digits.j1 : Nat → ByteArray → Bool → List Int → Int → Int → Int → Int → Option (Int × Int × ByteArray × Int × Int)
  | 0, _, _, _, _, _, _, _ => none
  | k + 1, x5, x33, x1000, x1001, x1002, x909000, x909001 => if x33 = true then ((spec_riGood.f k x909000 x909001).bind fun t927 => (if t927 = true then ((spec_OpeningText.f k x909000 x909001).bind fun bt928 => (some (x909000, x909001, bt928.1, x1001, x1002))) else (some (x909000, x909001, x5, x1001, x1002)))) else (some (x909000, x909001, x5, x1001, x1002))
end
def spec_l1Cur_digits.f (k : Nat) (s0_0 : List Int) (s0_1 : Int) (s0_2 : Int) : Option (Int × Int × ByteArray × Int × Int) := (spec_l1Cur_lock.f s0_0 s0_1 s0_2).bind fun bt904 => ((spec_l1Cur_pick.f s0_0 bt904.2.2.1 bt904.2.2.2 40).bind fun bt909 => (spec_l1Cur_digits.l0 k (⟨#[]⟩ : ByteArray) bt909.1 s0_0 bt909.2.1 bt909.2.2 bt904.1 bt904.2.1))
theorem spec_l1Cur_digits.mono_l : ∀ k, (∀ y0 y1 y2 y3 y4 y5 y6, LeO (spec_l1Cur_digits.l0 k y0 y1 y2 y3 y4 y5 y6) (spec_l1Cur_digits.l0 (k + 1) y0 y1 y2 y3 y4 y5 y6)) ∧ (∀ y0 y1 y2 y3 y4 y5 y6, LeO (spec_l1Cur_digits.j1 k y0 y1 y2 y3 y4 y5 y6) (spec_l1Cur_digits.j1 (k + 1) y0 y1 y2 y3 y4 y5 y6))
  | 0 => ⟨fun _ _ _ _ _ _ _ r h => by simp [spec_l1Cur_digits.l0] at h, fun _ _ _ _ _ _ _ r h => by simp [spec_l1Cur_digits.j1] at h⟩
  | k + 1 => by
    obtain ⟨ih0, ih1⟩ := spec_l1Cur_digits.mono_l k
    refine ⟨?_, ?_⟩
    rotate_left
    · intro y0 y1 y2 y3 y4 y5 y6
      unfold spec_l1Cur_digits.j1
      repeat' first
      | (with_reducible exact ih0 _ _ _ _ _ _ _)
      | (with_reducible exact ih1 _ _ _ _ _ _ _)
      | (with_reducible exact spec_OpeningText.mono _ _ _)
      | (with_reducible exact spec_l1Num.mono _ _)
      | (with_reducible exact spec_riGood.mono _ _ _)
      | (with_reducible exact LeO.refl _)
      | (with_reducible exact LeO.none _)
      | (with_reducible refine LeO.ite ?_ ?_)
      | (with_reducible refine LeO.bind ?_ (fun _ => ?_))
      | exact ih0 _ _ _ _ _ _ _
      | exact ih1 _ _ _ _ _ _ _
      | exact spec_OpeningText.mono _ _ _
      | exact spec_l1Num.mono _ _
      | exact spec_riGood.mono _ _ _
      | exact LeO.none _
      | refine LeO.ite ?_ ?_
      | refine LeO.bind ?_ (fun _ => ?_)
    intro y0 y1 y2 y3 y4 y5 y6
    unfold spec_l1Cur_digits.l0
    repeat' first
    | (with_reducible exact ih0 _ _ _ _ _ _ _)
    | (with_reducible exact ih1 _ _ _ _ _ _ _)
    | (with_reducible exact spec_OpeningText.mono _ _ _)
    | (with_reducible exact spec_l1Num.mono _ _)
    | (with_reducible exact spec_riGood.mono _ _ _)
    | (with_reducible exact LeO.refl _)
    | (with_reducible exact LeO.none _)
    | (with_reducible refine LeO.ite ?_ ?_)
    | (with_reducible refine LeO.bind ?_ (fun _ => ?_))
    | exact ih0 _ _ _ _ _ _ _
    | exact ih1 _ _ _ _ _ _ _
    | exact spec_OpeningText.mono _ _ _
    | exact spec_l1Num.mono _ _
    | exact spec_riGood.mono _ _ _
    | exact LeO.none _
    | refine LeO.ite ?_ ?_
    | refine LeO.bind ?_ (fun _ => ?_)
theorem spec_l1Cur_digits.mono : ∀ a0 a1 a2 k, LeO (spec_l1Cur_digits.f k a0 a1 a2) (spec_l1Cur_digits.f (k + 1) a0 a1 a2) := by
  intro a0 a1 a2 k
  obtain ⟨ih0, ih1⟩ := spec_l1Cur_digits.mono_l k
  unfold spec_l1Cur_digits.f
  repeat' first
      | (with_reducible exact ih0 _ _ _ _ _ _ _)
      | (with_reducible exact ih1 _ _ _ _ _ _ _)
      | (with_reducible exact spec_OpeningText.mono _ _ _)
      | (with_reducible exact spec_l1Num.mono _ _)
      | (with_reducible exact spec_riGood.mono _ _ _)
      | (with_reducible exact LeO.refl _)
      | (with_reducible exact LeO.none _)
      | (with_reducible refine LeO.ite ?_ ?_)
      | (with_reducible refine LeO.bind ?_ (fun _ => ?_))
      | exact ih0 _ _ _ _ _ _ _
      | exact ih1 _ _ _ _ _ _ _
      | exact spec_OpeningText.mono _ _ _
      | exact spec_l1Num.mono _ _
      | exact spec_riGood.mono _ _ _
      | exact LeO.none _
      | refine LeO.ite ?_ ?_
      | refine LeO.bind ?_ (fun _ => ?_)
set_option maxHeartbeats 8000000 in
set_option maxRecDepth 100000 in
theorem spec_l1Cur_digits.calls (k : Nat) (g : Nat) (s0_0 : List Int) (s0_1 : Int) (s0_2 : Int) (r1 : Int) (r2 : Int) (r3 : ByteArray) (r4 : Int) (r5 : Int) (w0 w : World) (hI : IsS81 w0 w g s0_0 s0_1 s0_2) (hB : Below w0.heap.size w0 w) (h : spec_l1Cur_digits.f k s0_0 s0_1 s0_2 = some (r1, r2, r3, r4, r5)) :
    Calls Tryz.prog 90 #[.pointer (some ⟨g, 0, none⟩)] w fun e w' => e = .returned (.tuple #[.agg #[.int .i64 r1, .int .i64 r2], .string r3]) ∧ IsS81 w0 w' g s0_0 r4 r5 ∧ Below w0.heap.size w0 w' ∧ KeepBut w w' g none := by
  have hu23 := Tryz.underlying23
  have HI0 := Aside0.mk hI
  have HK := Aside0.mk (KeepBut.refl w g none)
  have HL := Aside0.mk hB.size
  clear hI
  have HW0 := Aside0.mk hB.size
  have HB := Aside0.mk hB
  clear hB
  have H : ((spec_l1Cur_lock.f s0_0 s0_1 s0_2).bind fun bt904 => ((spec_l1Cur_pick.f s0_0 bt904.2.2.1 bt904.2.2.2 40).bind fun bt909 => (spec_l1Cur_digits.l0 k (⟨#[]⟩ : ByteArray) bt909.1 s0_0 bt909.2.1 bt909.2.2 bt904.1 bt904.2.1))) = some (r1, r2, r3, r4, r5) := h
  clear h
  replace H := Option.bind_eq_some_iff.mp H
  obtain ⟨⟨t904, t905, t906, t907⟩, A20, H⟩ := H
  try dsimp only at H
  have A2 := Aside0.mk A20
  clear A20
  replace H := Option.bind_eq_some_iff.mp H
  obtain ⟨⟨t909, t910, t911⟩, A30, H⟩ := H
  try dsimp only at H
  have A3 := Aside0.mk A30
  clear A30
  have H' := Aside0.mk H
  clear H
  go_enter Tryz.func90, Tryz.ntmps90
  go_wp2_with (first | ((with_reducible refine gate_dst (N := 2) rfl ?_); refine box_event ?hg (N := 2) ?hd (cs := #[.int .i64 0, .int .i64 0]) (t := 23) ?hr ?_; (case hd => rfl); (case hg => rfl); (case hr => first | (go_simp; done) | (go_simp; rfl)); intro gb903 hg w4 hbox hb; have n0_ := Aside0.mk (IsS81.below (sI HI0) hb); have n1_ := Aside0.mk (KeepBut.trans (sK HK) (KeepBut.of_below hb g none) (.inl rfl)); have n2_ := Aside0.mk (below_step (sB HB) hb); have n3_ := Aside0.mk (hbox); have n4_ := Aside0.mk ((by rw [hg]; exact (keep_size (w := w) (g := g) (row := none) (sK HK)) : w.heap.size ≤ gb903)); have n5_ := Aside0.mk ((Nat.le_trans HW0.out (by rw [hg]; exact (keep_size (w := w) (g := g) (row := none) (sK HK)) : w.heap.size ≤ gb903) : w0.heap.size ≤ gb903)); have n6_ := Aside0.mk ((by rw [hg]; exact Nat.ne_of_lt (IsS81.lt (show IsS81 w0 _ g s0_0 s0_1 s0_2 from sI HI0)) : g ≠ gb903)); have n7_ := Aside0.mk ((by rw [hg]; exact Nat.ne_of_gt (IsS81.lt (show IsS81 w0 _ g s0_0 s0_1 s0_2 from sI HI0)) : gb903 ≠ g)); clear HI0; clear HK; clear HB; have HI0 := n0_; have HK := n1_; have HB := n2_; have BK903 := n3_; have GW903 := n4_; have GE903 := n5_; have NB0_903 := n6_; have NB903_0 := n7_; clear n0_ n1_ n2_ n3_ n4_ n5_ n6_ n7_; clear hb hbox hg) | ((with_reducible refine gate_callee (f := 87) rfl ?_); refine goesL_ (some 8) rfl rfl Tryz.func87 (by kernel_rfl) rfl #[.pointer (some ⟨g, 0, none⟩)] rfl (by (try simp only [m_1, m_2, m_3]); first | done | rfl | (simp only [m_4, m_5]; rfl)) ?_; (with_reducible refine (spec_l1Cur_lock.calls g s0_0 s0_1 s0_2 t904 t905 t906 t907 w0 _ ?side1 ?side2 A2.out).mono ?_); (case side1 => exact sI HI0); (case side2 => exact sB HB); rintro e w5 ⟨rfl, hi, hb, hk⟩; refine ⟨_, rfl, ?_⟩; have n0_ := Aside0.mk (KeepBut.blk hk (bK BK903) NB903_0.out (by simp)); have n1_ := Aside0.mk (KeepBut.trans (sK HK) hk (.inl rfl)); have n2_ := Aside0.mk (hb); have n3_ := Aside0.mk (hi); clear BK903; clear HK; clear HB; clear HI0; have BK903 := n0_; have HK := n1_; have HB := n2_; have HI0 := n3_; clear n0_ n1_ n2_ n3_; (try clear hb); (try clear hb2); (try clear hk); (try clear hi)) | ((with_reducible refine gate_dst (N := 4) rfl ?_); refine box_event ?hg (N := 4) ?hd (cs := #[.int .i64 0, .int .i64 0]) (t := 23) ?hr ?_; (case hd => rfl); (case hg => rfl); (case hr => first | (go_simp; done) | (go_simp; rfl)); intro gb908 hg w6 hbox hb; have n0_ := Aside0.mk (IsS81.below (sI HI0) hb); have n1_ := bbx hb BK903; have n2_ := Aside0.mk (KeepBut.trans (sK HK) (KeepBut.of_below hb g none) (.inl rfl)); have n3_ := Aside0.mk (below_step (sB HB) hb); have n4_ := Aside0.mk (hbox); have n5_ := Aside0.mk ((by rw [hg]; exact (keep_size (w := w) (g := g) (row := none) (sK HK)) : w.heap.size ≤ gb908)); have n6_ := Aside0.mk ((Nat.le_trans HW0.out (by rw [hg]; exact (keep_size (w := w) (g := g) (row := none) (sK HK)) : w.heap.size ≤ gb908) : w0.heap.size ≤ gb908)); have n7_ := nlx hg BK903; have n8_ := ngx hg BK903; have n9_ := Aside0.mk ((by rw [hg]; exact Nat.ne_of_lt (IsS81.lt (show IsS81 w0 _ g s0_0 t906 t907 from sI HI0)) : g ≠ gb908)); have n10_ := Aside0.mk ((by rw [hg]; exact Nat.ne_of_gt (IsS81.lt (show IsS81 w0 _ g s0_0 t906 t907 from sI HI0)) : gb908 ≠ g)); clear HI0; clear BK903; clear HK; clear HB; have HI0 := n0_; have BK903 := n1_; have HK := n2_; have HB := n3_; have BK908 := n4_; have GW908 := n5_; have GE908 := n6_; have NB903_908 := n7_; have NB908_903 := n8_; have NB0_908 := n9_; have NB908_0 := n10_; clear n0_ n1_ n2_ n3_ n4_ n5_ n6_ n7_ n8_ n9_ n10_; clear hb hbox hg; have hnb7 := NB908_903.out; have hnc7 := NB903_908.out; have hnb8 := NB908_0.out; have hnc8 := NB0_908.out; have hcz9_0 := cz0 BK908; have hcz9_1 := cz1 BK908; have hfz9_0 := blk_frozen BK908.out 0; have hfz9_1 := blk_frozen BK908.out 1) | ((with_reducible refine gate_callee (f := 85) rfl ?_); refine goesL_ (some 10) rfl rfl Tryz.func85 (by kernel_rfl) rfl #[.pointer (some ⟨g, 0, none⟩), .int .i64 40] rfl (by (try simp only [m_1, m_2, m_3]); first | done | rfl | (simp only [m_4, m_5]; rfl)) ?_; (with_reducible refine (spec_l1Cur_pick.calls g s0_0 t906 t907 40 t909 t910 t911 w0 _ ?side1 ?side2 A3.out).mono ?_); (case side1 => exact sI HI0); (case side2 => exact sB HB); rintro e w10 ⟨rfl, hi, hb, hk⟩; refine ⟨_, rfl, ?_⟩; have n0_ := Aside0.mk (KeepBut.blk hk (g' := gb903) (o := .cells #[.int .i64 0, .int .i64 0] 23 (0, 0)) (bF) NB903_0.out (by simp)); have n1_ := Aside0.mk (KeepBut.blk hk (g' := gb908) (o := .cells #[.int .i64 t904, .int .i64 t905] 23 (0, 0)) (by (with_reducible repeat (first | refine g_d ?_ _ | refine g_e ?_ | refine g_a ?_ _)); refine blk_put (cs := #[.int .i64 t904, .int .i64 0]) ?_ 1 _ rfl; (with_reducible repeat (first | refine g_d ?_ _ | refine g_e ?_ | refine g_a ?_ _)); refine blk_put (cs := #[.int .i64 0, .int .i64 0]) ?_ 0 _ rfl; (with_reducible repeat (first | refine g_d ?_ _ | refine g_e ?_ | refine g_a ?_ _)); exact BK908.out) NB908_0.out (by simp)); have n2_ := Aside0.mk (KeepBut.trans (sK HK) hk (.inl rfl)); have n3_ := Aside0.mk (hb); have n4_ := Aside0.mk (hi); clear BK903; clear BK908; clear HK; clear HB; clear HI0; have BK903 := n0_; have BK908 := n1_; have HK := n2_; have HB := n3_; have HI0 := n4_; clear n0_ n1_ n2_ n3_ n4_; (try clear hb); (try clear hb2); (try clear hk); (try clear hi)))
  go_loopg [5, 6] k (fun kq v5 v6 w' => ∃ (x5_1 : ByteArray) (x6_1 : Int) (x1001_1 : Int) (x1002_1 : Int), v5 = .string x5_1 ∧ v6 = .int .i64 x6_1 ∧ Aside0 (spec_l1Cur_digits.l0 kq x5_1 x6_1 s0_0 x1001_1 x1002_1 t904 t905 = some (r1, r2, r3, r4, r5)) ∧ Aside0 (kq ≤ k) ∧ Aside0 (w'.heap[gb903]? = some (.cells #[.int .i64 0, .int .i64 0] 23 (0, 0))) ∧ Aside0 (w'.heap[gb908]? = some (.cells #[.int .i64 t904, .int .i64 t905] 23 (0, 0))) ∧ Aside0 (IsS81 w0 w' g s0_0 x1001_1 x1002_1) ∧ Aside0 (KeepBut w w' g none) ∧ Aside0 (Below w0.heap.size w0 w'))
  case atStart => refine ⟨((⟨#[]⟩ : ByteArray)), (t909), (t910), (t911), (by first | rfl | (simp; done) | (simp [*]; done)), (by first | rfl | (simp; done) | (simp [*]; done)), H', ⟨Nat.le_refl _⟩, ⟨?_⟩, ⟨?_⟩, ⟨sI HI0⟩, ⟨sK HK⟩, ⟨sB HB⟩⟩ <;> (with_reducible repeat (first | refine g_d ?_ _ | refine g_e ?_ | refine g_a ?_ _)) <;> first | exact BK903.out | exact BK908.out
  clear H'
  try clear hcz9_0
  try clear hcz9_1
  try clear hfz9_0
  try clear hfz9_1
  obtain ⟨x5_1, x6_1, x1001_1, x1002_1, rfl, rfl, HA, HK1, BK903, BK908, HI0, HK, HB⟩ := hrel
  rcases gk with _ | k1
  · exact absurd HA.out (by simp [spec_l1Cur_digits.l0])
  have H := HA.out
  clear HA
  simp only [spec_l1Cur_digits.l0] at H
  by_cases c11 : x6_1 > 0
  · rw [if_pos c11] at H
    have c11b0 : decide (0 < x6_1) = true := decide_eq_true c11
    clear c11
    replace H := Option.bind_eq_some_iff.mp H
    obtain ⟨t912, A120, H⟩ := H
    try dsimp only at H
    have A12 := Aside0.mk A120
    clear A120
    replace H := Option.bind_eq_some_iff.mp H
    obtain ⟨t913, A130, H⟩ := H
    try dsimp only at H
    have A13 := Aside0.mk A130
    clear A130
    replace H := Option.bind_eq_some_iff.mp H
    obtain ⟨⟨t914, t915, t916⟩, A140, H⟩ := H
    try dsimp only at H
    have A14 := Aside0.mk A140
    clear A140
    replace H := Option.bind_eq_some_iff.mp H
    obtain ⟨t917, A150, H⟩ := H
    try dsimp only at H
    have A15 := Aside0.mk A150
    clear A150
    by_cases c16 : x5_1.size + t917.size ≤ 9223372036854775807
    · rw [if_pos c16] at H
      have c16b0 := eq_true c16
      have c16b1 : decide (x5_1.size + t917.size ≤ 9223372036854775807) = true := decide_eq_true c16
      try have c16b2 : (9223372036854775807 < x5_1.size + t917.size) = False := eq_false (Nat.not_lt.2 c16)
      have H' := Aside0.mk H
      clear H
      have hnb17 := NB908_903.out
      have hnc17 := NB903_908.out
      have hnb18 := NB908_0.out
      have hnc18 := NB0_908.out
      have hcz19_0 := cz0 BK908
      have hcz19_1 := cz1 BK908
      have hfz19_0 := blk_frozen BK908.out 0
      have hfz19_1 := blk_frozen BK908.out 1
      go_wp2_with (first | ((with_reducible refine gate_callee (f := 111) rfl ?_); refine goesL_ (some 19) rfl rfl Tryz.func111 (by kernel_rfl) rfl #[.int .i64 1, .int .i64 t905] rfl (by (try simp only [m_1, m_2, m_3]); first | done | rfl | (simp only [m_4, m_5]; rfl)) ?_; (with_reducible refine (spec_l1Most.calls 1 t905 t912 _ A12.out).mono ?_); rintro e w' ⟨rfl, ⟨nd, rfl⟩⟩; refine ⟨_, rfl, ?_⟩) | ((with_reducible refine gate_callee (f := 102) rfl ?_); refine goesL_ (some 20) rfl rfl Tryz.func102 (by kernel_rfl) rfl #[.int .i64 10, .int .i64 t912] rfl (by (try simp only [m_1, m_2, m_3]); first | done | rfl | (simp only [m_4, m_5]; rfl)) ?_; (with_reducible refine (spec_l1Least.calls 10 t912 t913 _ A13.out).mono ?_); rintro e w' ⟨rfl, ⟨nd, rfl⟩⟩; refine ⟨_, rfl, ?_⟩) | ((with_reducible refine gate_callee (f := 85) rfl ?_); refine goesL_ (some 21) rfl rfl Tryz.func85 (by kernel_rfl) rfl #[.pointer (some ⟨g, 0, none⟩), .int .i64 t913] rfl (by (try simp only [m_1, m_2, m_3]); first | done | rfl | (simp only [m_4, m_5]; rfl)) ?_; (with_reducible refine (spec_l1Cur_pick.calls g s0_0 x1001_1 x1002_1 t913 t914 t915 t916 w0 _ ?side1 ?side2 A14.out).mono ?_); (case side1 => exact sI HI0); (case side2 => exact sB HB); rintro e w20 ⟨rfl, hi, hb, hk⟩; refine ⟨_, rfl, ?_⟩; have n0_ := Aside0.mk (KeepBut.blk hk (bK BK903) NB903_0.out (by simp)); have n1_ := Aside0.mk (KeepBut.blk hk (bK BK908) NB908_0.out (by simp)); have n2_ := Aside0.mk (KeepBut.trans (sK HK) hk (.inl rfl)); have n3_ := Aside0.mk (hb); have n4_ := Aside0.mk (hi); clear BK903; clear BK908; clear HK; clear HB; clear HI0; have BK903 := n0_; have BK908 := n1_; have HK := n2_; have HB := n3_; have HI0 := n4_; clear n0_ n1_ n2_ n3_ n4_; (try clear hb); (try clear hb2); (try clear hk); (try clear hi)) | ((with_reducible refine gate_callee (f := 57) rfl ?_); refine goesL_ (some 22) rfl rfl Tryz.func57 (by kernel_rfl) rfl #[.int .i64 t914] rfl (by (try simp only [m_1, m_2, m_3]); first | done | rfl | (simp only [m_4, m_5]; rfl)) ?_; (with_reducible refine (spec_l1Num.calls k1 t914 t917 _ A15.out).mono ?_); rintro e w21 ⟨rfl, hb⟩; refine ⟨_, rfl, ?_⟩; replace BK903 := bbx hb BK903; replace BK908 := bbx hb BK908; have n2_ := Aside0.mk (IsS81.below (sI HI0) hb); have n3_ := Aside0.mk (KeepBut.trans (sK HK) (KeepBut.of_below hb g none) (.inl rfl)); have n4_ := Aside0.mk (below_step (sB HB) hb); clear HI0; clear HK; clear HB; have HI0 := n2_; have HK := n3_; have HB := n4_; clear n2_ n3_ n4_; (try clear hb); (try clear hb2); (try clear hk); (try clear hi)))
      go_roundg k1
      case measure => have := HK1.out; omega
      case rel => refine ⟨(x5_1 ++ t917), (wrap64 (x6_1 - 1)), (t915), (t916), (by first | rfl | (simp; done) | (simp [*]; done)), (by first | rfl | (simp; done) | (simp [*]; done)), H', ⟨by have := HK1.out; omega⟩, ⟨?_⟩, ⟨?_⟩, ⟨sI HI0⟩, ⟨sK HK⟩, ⟨sB HB⟩⟩ <;> (with_reducible repeat (first | refine g_d ?_ _ | refine g_e ?_ | refine g_a ?_ _)) <;> first | exact BK903.out | exact BK908.out
    · rw [if_neg c16] at H
      exact absurd H (by simp)
  rw [if_neg c11] at H
  have c11b0 : decide (0 < x6_1) = false := decide_eq_false c11
  clear c11
  replace H := Option.bind_eq_some_iff.mp H
  obtain ⟨⟨t918, t919, t920⟩, A220, H⟩ := H
  try dsimp only at H
  have A22 := Aside0.mk A220
  clear A220
  by_cases c23 : t918 = 0
  · rw [if_pos c23] at H
    have c23b0 : (t918 == 0) = true := beq_iff_eq.mpr c23
    have c23b1 : (t918 != 0) = false := bne_eq_false_iff_eq.mpr c23
    clear c23
    obtain ⟨y921, hy921⟩ : ∃ y_ : List ByteArray, y_ = (([(⟨#[120]⟩ : ByteArray), (⟨#[57]⟩ : ByteArray), (⟨#[45]⟩ : ByteArray)] : List ByteArray)) := ⟨_, rfl⟩
    replace H : ((spec_l1Cur_of.f s0_0 t919 t920 y921).bind fun bt924 => (if x5_1.size + bt924.1.size ≤ 9223372036854775807 then (some (t904, t905, x5_1 ++ bt924.1, bt924.2.1, bt924.2.2)) else (none))) = some (r1, r2, r3, r4, r5) := by first | (rw [hy921]; with_reducible exact H) | (have H2_ := (Option.bind_some _ _).symm.trans H; rw [hy921]; with_reducible exact H2_) | (have H2_ := (Option.bind_some _ _).symm.trans H; with_reducible exact H2_) | with_reducible exact H | (rw [hy921]; exact H) | exact H
    have Ny921 := Aside0.mk hy921
    clear hy921
    replace H := Option.bind_eq_some_iff.mp H
    obtain ⟨⟨t924, t925, t926⟩, A240, H⟩ := H
    try dsimp only at H
    have A24 := Aside0.mk A240
    clear A240
    by_cases c25 : x5_1.size + t924.size ≤ 9223372036854775807
    · rw [if_pos c25] at H
      have c25b0 := eq_true c25
      have c25b1 : decide (x5_1.size + t924.size ≤ 9223372036854775807) = true := decide_eq_true c25
      try have c25b2 : (9223372036854775807 < x5_1.size + t924.size) = False := eq_false (Nat.not_lt.2 c25)
      simp only [Option.some.injEq, Prod.mk.injEq] at H
      obtain ⟨rfl, rfl, rfl, rfl, rfl⟩ := H
      go_wp2_with (first | ((with_reducible refine gate_callee (f := 85) rfl ?_); refine goesL_ (some 25) rfl rfl Tryz.func85 (by kernel_rfl) rfl #[.pointer (some ⟨g, 0, none⟩), .int .i64 14] rfl (by (try simp only [m_1, m_2, m_3]); first | done | rfl | (simp only [m_4, m_5]; rfl)) ?_; (with_reducible refine (spec_l1Cur_pick.calls g s0_0 x1001_1 x1002_1 14 t918 t919 t920 w0 _ ?side1 ?side2 A22.out).mono ?_); (case side1 => exact sI HI0); (case side2 => exact sB HB); rintro e w26 ⟨rfl, hi, hb, hk⟩; refine ⟨_, rfl, ?_⟩; have n0_ := Aside0.mk (KeepBut.blk hk (bK BK903) NB903_0.out (by simp)); have n1_ := Aside0.mk (KeepBut.blk hk (bK BK908) NB908_0.out (by simp)); have n2_ := Aside0.mk (KeepBut.trans (sK HK) hk (.inl rfl)); have n3_ := Aside0.mk (hb); have n4_ := Aside0.mk (hi); clear BK903; clear BK908; clear HK; clear HB; clear HI0; have BK903 := n0_; have BK908 := n1_; have HK := n2_; have HB := n3_; have HI0 := n4_; clear n0_ n1_ n2_ n3_ n4_; (try clear hb); (try clear hb2); (try clear hk); (try clear hi)) | ((with_reducible refine gate_dst (N := 30) rfl ?_); refine Kd.R_lit Kd.string _ 9 ?hg (N := 30) ?hd (xs := ([(⟨#[120]⟩ : ByteArray), (⟨#[57]⟩ : ByteArray), (⟨#[45]⟩ : ByteArray)] : List ByteArray)) (inner := [.string (⟨#[120]⟩ : ByteArray), .string (⟨#[57]⟩ : ByteArray), .string (⟨#[45]⟩ : ByteArray)]) (ok := fun _ => True) (okp := fun _ => True) ?hr ?hp (fun _ hk => hk) trivial (Below.refl _ _) (Nat.le_refl _) (by simp) ?_; (case hd => rfl); (case hg => rfl); (case hr => first | (go_simp; done) | (go_simp; rfl)); (case hp => exact (Reps.one (show Kd.M Kd.string _ _ _ (⟨#[120]⟩ : ByteArray) [.string (⟨#[120]⟩ : ByteArray)] from rfl) (Reps.one (show Kd.M Kd.string _ _ _ (⟨#[57]⟩ : ByteArray) [.string (⟨#[57]⟩ : ByteArray)] from rfl) (Reps.one (show Kd.M Kd.string _ _ _ (⟨#[45]⟩ : ByteArray) [.string (⟨#[45]⟩ : ByteArray)] from rfl) (Reps.none _ _))))); intro v922 w27 ho28 hb hg_ hnew_; clear hg_ hnew_; (first | rw [← Ny921.out] at ho28 | (simp only [Int.reduceToNat] at ho28; rw [← Ny921.out] at ho28)); have n0_ := Aside0.mk (Kd.R_lower ho28 (keep_size (w := w) (g := g) (row := none) (sK HK))); replace BK903 := bbx hb BK903; replace BK908 := bbx hb BK908; have n3_ := Aside0.mk (IsS81.below (sI HI0) hb); have n4_ := Aside0.mk (KeepBut.trans (sK HK) (KeepBut.of_below hb g none) (.inl rfl)); have n5_ := Aside0.mk (below_step (sB HB) hb); clear HI0; clear HK; clear HB; have HO923 := n0_; have HI0 := n3_; have HK := n4_; have HB := n5_; clear n0_ n3_ n4_ n5_; clear hb ho28; obtain ⟨Ao29, co29, eo29⟩ := Kd.R_slice HO923.out; subst eo29) | ((with_reducible refine gate_callee (f := 110) rfl ?_); refine goesL_ (some 31) rfl rfl Tryz.func110 (by kernel_rfl) rfl #[.pointer (some ⟨g, 0, none⟩), .slice Ao29 y921.length co29] rfl (by (try simp only [m_1, m_2, m_3]); first | done | rfl | (simp only [m_4, m_5]; rfl)) ?_; (with_reducible refine (spec_l1Cur_of.calls g s0_0 t919 t920 _ _ y921 t924 t925 t926 w0 _ ?side1 ?side2 ?side3 ?side4 ?side5 A24.out).mono ?_); (case side1 => exact sI HI0); (case side2 => exact sB HB); (case side3 => repeat (first | exact (Kd.R_reads' HO923.out).2.2 | (with_reducible refine Kd.C_alloc ?_ _) | (with_reducible refine Kd.C_drewN ?_ _) | (with_reducible refine Kd.C_drew ?_))); (case side4 => exact (Kd.R_reads' HO923.out).2.1); (case side5 => exact far_slice (IsS81.own_ne HI0.out HO923.out (by decide))); rintro e w30 ⟨rfl, hi, hb, hk⟩; refine ⟨_, rfl, ?_⟩; have n0_ := Aside0.mk (KeepBut.blk hk (bK BK903) NB903_0.out (by simp)); have n1_ := Aside0.mk (KeepBut.blk hk (bK BK908) NB908_0.out (by simp)); have n2_ := Aside0.mk (Kd.R_mono (Kd.R_keep (IsS81.apart (show IsS81 w0 _ g s0_0 t919 t920 from sI HI0) (by (with_reducible repeat (first | apply r_a | apply r_d | apply r_e)); exact HO923.out) (by decide)) hk (fun _ h => h.2)) (fun _ h => h.1)); have n3_ := Aside0.mk (KeepBut.trans (sK HK) hk (.inl rfl)); have n4_ := Aside0.mk (hb); have n5_ := Aside0.mk (hi); clear BK903; clear BK908; clear HO923; clear HK; clear HB; clear HI0; have BK903 := n0_; have BK908 := n1_; have HO923 := n2_; have HK := n3_; have HB := n4_; have HI0 := n5_; clear n0_ n1_ n2_ n3_ n4_ n5_; (try clear hb); (try clear hb2); (try clear hk); (try clear hi); have hnb31 := NB908_903.out; have hnc31 := NB903_908.out; have hnb32 := NB908_0.out; have hnc32 := NB0_908.out; have hcz33_0 := cz0 BK908; have hcz33_1 := cz1 BK908; have hfz33_0 := blk_frozen BK908.out 0; have hfz33_1 := blk_frozen BK908.out 1; have hnb34 := NB903_0.out; have hnc34 := NB0_903.out; have hcz35_0 := cz0 BK903; have hcz35_1 := cz1 BK903; have hfz35_0 := blk_frozen BK903.out 0; have hfz35_1 := blk_frozen BK903.out 1))
      refine bodyPost_ret (results_ct rfl _ _ gb903 23 #[.int .i64 t904, .int .i64 t905] (0, 0) _ rfl (by (with_reducible repeat (first | refine g_d ?_ _ | refine g_e ?_ | refine g_a ?_ _)); refine blk_put (cs := #[.int .i64 t904, .int .i64 0]) ?_ 1 _ rfl; (with_reducible repeat (first | refine g_d ?_ _ | refine g_e ?_ | refine g_a ?_ _)); refine blk_put (cs := #[.int .i64 0, .int .i64 0]) ?_ 0 _ rfl; (with_reducible repeat (first | refine g_d ?_ _ | refine g_e ?_ | refine g_a ?_ _)); exact BK903.out) Tryz.underlying23 rfl (by kernel_rfl)) rfl ?_
      exact ⟨by first | rfl | (simp [errW_none, errW_some] <;> rfl) | (simp [*, errW_none, errW_some] <;> rfl), sI HI0, sB HB, sK HK⟩
    · rw [if_neg c25] at H
      exact absurd H (by simp)
  rw [if_neg c23] at H
  have c23b0 : (t918 == 0) = false := beq_eq_false_iff_ne.mpr c23
  have c23b1 : (t918 != 0) = true := bne_iff_ne.mpr c23
  have HC36 := Aside0.mk H
  clear H
  go_upto_if 33 with (first | ((with_reducible refine gate_callee (f := 85) rfl ?_); refine goesL_ (some 25) rfl rfl Tryz.func85 (by kernel_rfl) rfl #[.pointer (some ⟨g, 0, none⟩), .int .i64 14] rfl (by (try simp only [m_1, m_2, m_3]); first | done | rfl | (simp only [m_4, m_5]; rfl)) ?_; (with_reducible refine (spec_l1Cur_pick.calls g s0_0 x1001_1 x1002_1 14 t918 t919 t920 w0 _ ?side1 ?side2 A22.out).mono ?_); (case side1 => exact sI HI0); (case side2 => exact sB HB); rintro e w37 ⟨rfl, hi, hb, hk⟩; refine ⟨_, rfl, ?_⟩; have n0_ := Aside0.mk (KeepBut.blk hk (bK BK903) NB903_0.out (by simp)); have n1_ := Aside0.mk (KeepBut.blk hk (bK BK908) NB908_0.out (by simp)); have n2_ := Aside0.mk (KeepBut.trans (sK HK) hk (.inl rfl)); have n3_ := Aside0.mk (hb); have n4_ := Aside0.mk (hi); clear BK903; clear BK908; clear HK; clear HB; clear HI0; have BK903 := n0_; have BK908 := n1_; have HK := n2_; have HB := n3_; have HI0 := n4_; clear n0_ n1_ n2_ n3_ n4_; (try clear hb); (try clear hb2); (try clear hk); (try clear hi)))
  (try simp only [Act.put, s_1, s_2, s_3])
  go_cut [33] (fun v33 wc => ∃ (kq : Nat) (x33_35 : Bool), v33 = .bool x33_35 ∧ Aside0 (spec_l1Cur_digits.j1 kq x5_1 x33_35 s0_0 t919 t920 t904 t905 = some (r1, r2, r3, r4, r5)) ∧ Aside0 (kq ≤ k1) ∧ Aside0 (wc.heap[gb903]? = some (.cells #[.int .i64 0, .int .i64 0] 23 (0, 0))) ∧ Aside0 (wc.heap[gb908]? = some (.cells #[.int .i64 t904, .int .i64 t905] 23 (0, 0))) ∧ Aside0 (IsS81 w0 wc g s0_0 t919 t920) ∧ Aside0 (KeepBut w wc g none) ∧ Aside0 (Below w0.heap.size w0 wc))
  case first =>
    have H := HC36.out
    clear HC36
    by_cases c38 : t918 = 1
    rotate_left
    · rw [if_neg c38] at H
      have c38b0 : (t918 == 1) = false := beq_eq_false_iff_ne.mpr c38
      have c38b1 : (t918 != 1) = true := bne_iff_ne.mpr c38
      (first | rw [c38b0] | (simp only [i64_w, i32_w]; rw [c38b0]) | skip)
      have H' := Aside0.mk H
      clear H
      go_wp2
      go_meet
      case rel => refine ⟨_, ((t918 == 2)), (by first | rfl | (simp; done) | (simp [*]; done)), H', ⟨by have := HK1.out; first | omega | exact Nat.le_refl _⟩, ⟨?_⟩, ⟨?_⟩, ⟨sI HI0⟩, ⟨sK HK⟩, ⟨sB HB⟩⟩ <;> (with_reducible repeat (first | refine g_d ?_ _ | refine g_e ?_ | refine g_a ?_ _)) <;> first | exact BK903.out | exact BK908.out
    rw [if_pos c38] at H
    have c38b0 : (t918 == 1) = true := beq_iff_eq.mpr c38
    have c38b1 : (t918 != 1) = false := bne_eq_false_iff_eq.mpr c38
    clear c38
    (first | rw [c38b0] | (simp only [i64_w, i32_w]; rw [c38b0]) | skip)
    have H' := Aside0.mk H
    clear H
    go_wp2
    go_meet
    case rel => refine ⟨_, ((t918 == 1)), (by first | rfl | (simp; done) | (simp [*]; done)), H', ⟨by have := HK1.out; first | omega | exact Nat.le_refl _⟩, ⟨?_⟩, ⟨?_⟩, ⟨sI HI0⟩, ⟨sK HK⟩, ⟨sB HB⟩⟩ <;> (with_reducible repeat (first | refine g_d ?_ _ | refine g_e ?_ | refine g_a ?_ _)) <;> first | exact BK903.out | exact BK908.out
  clear HC36
  try clear c11
  try clear c11b0
  try clear c23
  try clear c23b0
  try clear c23b1
  obtain ⟨kq, x33_35, rfl, HA, HJ35, BK903, BK908, HI0, HK, HB⟩ := hcut
  rcases kq with _ | kj35
  · exact absurd HA.out (by simp [spec_l1Cur_digits.j1])
  have H := HA.out
  clear HA
  simp only [spec_l1Cur_digits.j1] at H
  by_cases c39 : x33_35 = true
  rotate_left
  · replace c39 := Bool.eq_false_iff.mpr c39
    subst c39
    rw [if_neg (show ¬ (false = true) by decide)] at H
    simp only [Option.some.injEq, Prod.mk.injEq] at H
    obtain ⟨rfl, rfl, rfl, rfl, rfl⟩ := H
    have hnb59 := NB908_903.out
    have hnc59 := NB903_908.out
    have hnb60 := NB908_0.out
    have hnc60 := NB0_908.out
    have hcz61_0 := cz0 BK908
    have hcz61_1 := cz1 BK908
    have hfz61_0 := blk_frozen BK908.out 0
    have hfz61_1 := blk_frozen BK908.out 1
    have hnb62 := NB903_0.out
    have hnc62 := NB0_903.out
    have hcz63_0 := cz0 BK903
    have hcz63_1 := cz1 BK903
    have hfz63_0 := blk_frozen BK903.out 0
    have hfz63_1 := blk_frozen BK903.out 1
    go_wp2
    refine bodyPost_ret (results_ct rfl _ _ gb903 23 #[.int .i64 t904, .int .i64 t905] (0, 0) _ rfl (by (with_reducible repeat (first | refine g_d ?_ _ | refine g_e ?_ | refine g_a ?_ _)); refine blk_put (cs := #[.int .i64 t904, .int .i64 0]) ?_ 1 _ rfl; (with_reducible repeat (first | refine g_d ?_ _ | refine g_e ?_ | refine g_a ?_ _)); refine blk_put (cs := #[.int .i64 0, .int .i64 0]) ?_ 0 _ rfl; (with_reducible repeat (first | refine g_d ?_ _ | refine g_e ?_ | refine g_a ?_ _)); exact BK903.out) Tryz.underlying23 rfl (by kernel_rfl)) rfl ?_
    exact ⟨by first | rfl | (simp [errW_none, errW_some] <;> rfl) | (simp [*, errW_none, errW_some] <;> rfl), sI HI0, sB HB, sK HK⟩

  subst c39
  rw [if_pos rfl] at H
  replace H := Option.bind_eq_some_iff.mp H
  obtain ⟨t927, A400, H⟩ := H
  try dsimp only at H
  have A40 := Aside0.mk A400
  clear A400
  by_cases c41 : t927 = true
  rotate_left
  · replace c41 := Bool.eq_false_iff.mpr c41
    subst c41
    rw [if_neg (show ¬ (false = true) by decide)] at H
    simp only [Option.some.injEq, Prod.mk.injEq] at H
    obtain ⟨rfl, rfl, rfl, rfl, rfl⟩ := H
    have hnb52 := NB908_903.out
    have hnc52 := NB903_908.out
    have hnb53 := NB908_0.out
    have hnc53 := NB0_908.out
    have hcz54_0 := cz0 BK908
    have hcz54_1 := cz1 BK908
    have hfz54_0 := blk_frozen BK908.out 0
    have hfz54_1 := blk_frozen BK908.out 1
    go_wp2_with (first | ((with_reducible refine gate_callee (f := 52) rfl ?_); refine goesL_ (some 37) rfl rfl Tryz.func52 (by kernel_rfl) rfl #[.agg #[.int .i64 t904, .int .i64 t905]] rfl (by (try simp only [m_1, m_2, m_3]); first | done | rfl | (simp only [m_4, m_5]; rfl)) ?_; (with_reducible refine (spec_riGood.calls kj35 t904 t905 false _ A40.out).mono ?_); rintro e w55 ⟨rfl, hb⟩; refine ⟨_, rfl, ?_⟩; replace BK903 := bbx hb BK903; replace BK908 := bbx hb BK908; have n2_ := Aside0.mk (IsS81.below (sI HI0) hb); have n3_ := Aside0.mk (KeepBut.trans (sK HK) (KeepBut.of_below hb g none) (.inl rfl)); have n4_ := Aside0.mk (below_step (sB HB) hb); clear HI0; clear HK; clear HB; have HI0 := n2_; have HK := n3_; have HB := n4_; clear n2_ n3_ n4_; (try clear hb); (try clear hb2); (try clear hk); (try clear hi); have hcz56_0 := cz0 BK908; have hcz56_1 := cz1 BK908; have hfz56_0 := blk_frozen BK908.out 0; have hfz56_1 := blk_frozen BK908.out 1; have hnb57 := NB903_0.out; have hnc57 := NB0_903.out; have hcz58_0 := cz0 BK903; have hcz58_1 := cz1 BK903; have hfz58_0 := blk_frozen BK903.out 0; have hfz58_1 := blk_frozen BK903.out 1))
    refine bodyPost_ret (results_ct rfl _ _ gb903 23 #[.int .i64 t904, .int .i64 t905] (0, 0) _ rfl (by (with_reducible repeat (first | refine g_d ?_ _ | refine g_e ?_ | refine g_a ?_ _)); refine blk_put (cs := #[.int .i64 t904, .int .i64 0]) ?_ 1 _ rfl; (with_reducible repeat (first | refine g_d ?_ _ | refine g_e ?_ | refine g_a ?_ _)); refine blk_put (cs := #[.int .i64 0, .int .i64 0]) ?_ 0 _ rfl; (with_reducible repeat (first | refine g_d ?_ _ | refine g_e ?_ | refine g_a ?_ _)); exact BK903.out) Tryz.underlying23 rfl (by kernel_rfl)) rfl ?_
    exact ⟨by first | rfl | (simp [errW_none, errW_some] <;> rfl) | (simp [*, errW_none, errW_some] <;> rfl), sI HI0, sB HB, sK HK⟩
  subst c41
  rw [if_pos rfl] at H
  replace H := Option.bind_eq_some_iff.mp H
  obtain ⟨⟨t928, t929⟩, A420, H⟩ := H
  try dsimp only at H
  have A42 := Aside0.mk A420
  clear A420
  simp only [Option.some.injEq, Prod.mk.injEq] at H
  obtain ⟨rfl, rfl, rfl, rfl, rfl⟩ := H
  have hnb43 := NB908_903.out
  have hnc43 := NB903_908.out
  have hnb44 := NB908_0.out
  have hnc44 := NB0_908.out
  have hcz45_0 := cz0 BK908
  have hcz45_1 := cz1 BK908
  have hfz45_0 := blk_frozen BK908.out 0
  have hfz45_1 := blk_frozen BK908.out 1
  go_wp2_with (first | ((with_reducible refine gate_callee (f := 52) rfl ?_); refine goesL_ (some 37) rfl rfl Tryz.func52 (by kernel_rfl) rfl #[.agg #[.int .i64 t904, .int .i64 t905]] rfl (by (try simp only [m_1, m_2, m_3]); first | done | rfl | (simp only [m_4, m_5]; rfl)) ?_; (with_reducible refine (spec_riGood.calls kj35 t904 t905 true _ A40.out).mono ?_); rintro e w46 ⟨rfl, hb⟩; refine ⟨_, rfl, ?_⟩; replace BK903 := bbx hb BK903; replace BK908 := bbx hb BK908; have n2_ := Aside0.mk (IsS81.below (sI HI0) hb); have n3_ := Aside0.mk (KeepBut.trans (sK HK) (KeepBut.of_below hb g none) (.inl rfl)); have n4_ := Aside0.mk (below_step (sB HB) hb); clear HI0; clear HK; clear HB; have HI0 := n2_; have HK := n3_; have HB := n4_; clear n2_ n3_ n4_; (try clear hb); (try clear hb2); (try clear hk); (try clear hi); have hcz47_0 := cz0 BK908; have hcz47_1 := cz1 BK908; have hfz47_0 := blk_frozen BK908.out 0; have hfz47_1 := blk_frozen BK908.out 1) | ((with_reducible refine gate_callee (f := 13) rfl ?_); refine goesL_ (some 40) rfl rfl Tryz.func13 (by kernel_rfl) rfl #[.agg #[.int .i64 t904, .int .i64 t905]] rfl (by (try simp only [m_1, m_2, m_3]); first | done | rfl | (simp only [m_4, m_5]; rfl)) ?_; (with_reducible refine (spec_OpeningText.calls kj35 t904 t905 t928 t929 _ A42.out).mono ?_); rintro e w48 ⟨rfl, hb⟩; refine ⟨_, rfl, ?_⟩; replace BK903 := bbx hb BK903; replace BK908 := bbx hb BK908; have n2_ := Aside0.mk (IsS81.below (sI HI0) hb); have n3_ := Aside0.mk (KeepBut.trans (sK HK) (KeepBut.of_below hb g none) (.inl rfl)); have n4_ := Aside0.mk (below_step (sB HB) hb); clear HI0; clear HK; clear HB; have HI0 := n2_; have HK := n3_; have HB := n4_; clear n2_ n3_ n4_; (try clear hb); (try clear hb2); (try clear hk); (try clear hi); have hcz49_0 := cz0 BK908; have hcz49_1 := cz1 BK908; have hfz49_0 := blk_frozen BK908.out 0; have hfz49_1 := blk_frozen BK908.out 1; have hnb50 := NB903_0.out; have hnc50 := NB0_903.out; have hcz51_0 := cz0 BK903; have hcz51_1 := cz1 BK903; have hfz51_0 := blk_frozen BK903.out 0; have hfz51_1 := blk_frozen BK903.out 1))
  refine bodyPost_ret (results_ct rfl _ _ gb903 23 #[.int .i64 t904, .int .i64 t905] (0, 0) _ rfl (by (with_reducible repeat (first | refine g_d ?_ _ | refine g_e ?_ | refine g_a ?_ _)); refine blk_put (cs := #[.int .i64 t904, .int .i64 0]) ?_ 1 _ rfl; (with_reducible repeat (first | refine g_d ?_ _ | refine g_e ?_ | refine g_a ?_ _)); refine blk_put (cs := #[.int .i64 0, .int .i64 0]) ?_ 0 _ rfl; (with_reducible repeat (first | refine g_d ?_ _ | refine g_e ?_ | refine g_a ?_ _)); exact BK903.out) Tryz.underlying23 rfl (by kernel_rfl)) rfl ?_
  exact ⟨by first | rfl | (simp [errW_none, errW_some] <;> rfl) | (simp [*, errW_none, errW_some] <;> rfl), sI HI0, sB HB, sK HK⟩
/-! ### spec_DrawCountOpened: function 48 -/
def spec_DrawCountOpened.f (k : Nat) (l0 : List Int) : Option (Int × Int × ByteArray) := (spec_newCur.f l0).bind fun bt931 => ((spec_l1Cur_digits.f k bt931.1 bt931.2.1 bt931.2.2).bind fun bt935 => (some (bt935.1, bt935.2.1, bt935.2.2.1)))
theorem spec_DrawCountOpened.mono : ∀ a0 k, LeO (spec_DrawCountOpened.f k a0) (spec_DrawCountOpened.f (k + 1) a0) := by
  intro a0 k
  unfold spec_DrawCountOpened.f
  repeat' first
      | (with_reducible exact spec_l1Cur_digits.mono _ _ _ _)
      | (with_reducible exact LeO.refl _)
      | (with_reducible exact LeO.none _)
      | (with_reducible refine LeO.ite ?_ ?_)
      | (with_reducible refine LeO.bind ?_ (fun _ => ?_))
      | exact spec_l1Cur_digits.mono _ _ _ _
      | exact LeO.none _
      | refine LeO.ite ?_ ?_
      | refine LeO.bind ?_ (fun _ => ?_)
set_option maxHeartbeats 8000000 in
set_option maxRecDepth 100000 in
theorem spec_DrawCountOpened.calls (k : Nat) (A0 : Option Addr) (c0 : Nat) (l0 : List Int) (r1 : Int) (r2 : Int) (r3 : ByteArray) (w : World) (hr0 : Kd.C (Kd.int .u8) w A0 l0.length l0) (hc0 : l0.length ≤ c0) (h : spec_DrawCountOpened.f k l0 = some (r1, r2, r3)) :
    Calls Tryz.prog 48 #[.slice A0 l0.length c0] w fun e w' => e = .returned (.tuple #[.agg #[.int .i64 r1, .int .i64 r2], .string r3]) ∧ Below w.heap.size w w' := by
  have hu23 := Tryz.underlying23
  have HR0 := Aside0.mk hr0
  have HC0 := Aside0.mk hc0
  clear hr0 hc0
  have HB := Aside0.mk (Below.refl w.heap.size w)
  have H : ((spec_newCur.f l0).bind fun bt931 => ((spec_l1Cur_digits.f k bt931.1 bt931.2.1 bt931.2.2).bind fun bt935 => (some (bt935.1, bt935.2.1, bt935.2.2.1)))) = some (r1, r2, r3) := h
  clear h
  replace H := Option.bind_eq_some_iff.mp H
  obtain ⟨⟨t931, t932, t933⟩, A20, H⟩ := H
  try dsimp only at H
  have A2 := Aside0.mk A20
  clear A20
  replace H := Option.bind_eq_some_iff.mp H
  obtain ⟨⟨t935, t936, t937, t938, t939⟩, A30, H⟩ := H
  try dsimp only at H
  have A3 := Aside0.mk A30
  clear A30
  simp only [Option.some.injEq, Prod.mk.injEq] at H
  obtain ⟨rfl, rfl, rfl⟩ := H
  have hu81 := Tryz.underlying81
  go_enter Tryz.func48, Tryz.ntmps48
  go_wp2_with (first | ((with_reducible refine gate_dst (N := 2) rfl ?_); refine box_event ?hg (N := 2) ?hd (cs := #[.int .i64 0, .int .i64 0]) (t := 23) ?hr ?_; (case hd => rfl); (case hg => rfl); (case hr => first | (go_simp; done) | (go_simp; rfl)); intro gb930 hg w4 hbox hb; have n0_ := bsx hb HB; have n1_ := Aside0.mk (hbox); have n2_ := gwx hg HB; have n3_ := n2_; clear HB; have HB := n0_; have BK930 := n1_; have GW930 := n2_; have GE930 := n3_; clear n0_ n1_ n2_ n3_; clear hb hbox hg) | ((with_reducible refine gate_dst (N := 7) rfl ?_); refine box_event ?hg (N := 7) ?hd (cs := #[.slice A0 l0.length c0, .int .i64 0, .int .u64 0]) (t := 81) ?hr ?_; (case hd => rfl); (case hg => rfl); (case hr => first | (go_simp; done) | (go_simp; rfl)); intro g934 hg w5 hbox hb2; have hi : IsS81 w w5 g934 t931 t932 t933 := spec_newCur.is A2.out hbox (by rw [hg]; exact (below_size (bB HB))) HR0.out; have hb := below_step (bB HB) hb2; clear hbox hg; have n0_ := Aside0.mk (blk_below (g := gb930) (o := .cells #[.int .i64 0, .int .i64 0] 23 (0, 0)) (bK BK930) hb2); have n1_ := Aside0.mk (hb); have n2_ := Aside0.mk (hi); have n3_ := Aside0.mk (IsS81.ne_blk hi (blk_below (g := gb930) (o := .cells #[.int .i64 0, .int .i64 0] 23 (0, 0)) (bK BK930) hb2) (by decide)); have n4_ := Aside0.mk (Ne.symm (IsS81.ne_blk hi (blk_below (g := gb930) (o := .cells #[.int .i64 0, .int .i64 0] 23 (0, 0)) (bK BK930) hb2) (by decide))); clear BK930; clear HB; have BK930 := n0_; have HB := n1_; have HI934 := n2_; have NB934_930 := n3_; have NB930_934 := n4_; clear n0_ n1_ n2_ n3_ n4_; (try clear hb); (try clear hb2); (try clear hk); (try clear hi)) | ((with_reducible refine gate_callee (f := 90) rfl ?_); refine goesL_ (some 9) rfl rfl Tryz.func90 (by kernel_rfl) rfl #[.pointer (some ⟨g934, 0, none⟩)] rfl (by (try simp only [m_1, m_2, m_3]); first | done | rfl | (simp only [m_4, m_5]; rfl)) ?_; (with_reducible refine (spec_l1Cur_digits.calls k g934 t931 t932 t933 t935 t936 t937 t938 t939 w _ ?side1 ?side2 A3.out).mono ?_); (case side1 => exact sI HI934); (case side2 => exact sB HB); rintro e w6 ⟨rfl, hi, hb, hk⟩; refine ⟨_, rfl, ?_⟩; have n0_ := Aside0.mk (KeepBut.blk hk (bK BK930) NB930_934.out (by simp)); have n1_ := Aside0.mk (hb); have n2_ := Aside0.mk (hi); clear BK930; clear HB; clear HI934; have BK930 := n0_; have HB := n1_; have HI934 := n2_; clear n0_ n1_ n2_; (try clear hb); (try clear hb2); (try clear hk); (try clear hi); have hnb7 := NB930_934.out; have hnc7 := NB934_930.out; have hcz8_0 := cz0 BK930; have hcz8_1 := cz1 BK930; have hfz8_0 := blk_frozen BK930.out 0; have hfz8_1 := blk_frozen BK930.out 1))
  refine bodyPost_ret (results_ct rfl _ _ gb930 23 #[.int .i64 t935, .int .i64 t936] (0, 0) _ rfl (by (with_reducible repeat (first | refine g_d ?_ _ | refine g_e ?_ | refine g_a ?_ _)); refine blk_put (cs := #[.int .i64 t935, .int .i64 0]) ?_ 1 _ rfl; (with_reducible repeat (first | refine g_d ?_ _ | refine g_e ?_ | refine g_a ?_ _)); refine blk_put (cs := #[.int .i64 0, .int .i64 0]) ?_ 0 _ rfl; (with_reducible repeat (first | refine g_d ?_ _ | refine g_e ?_ | refine g_a ?_ _)); exact BK930.out) Tryz.underlying23 rfl (by kernel_rfl)) rfl ?_
  exact ⟨by first | rfl | (simp [errW_none, errW_some] <;> rfl) | (simp [*, errW_none, errW_some] <;> rfl), sB HB⟩

/-! ### spec_DrawStepsToOpen: function 49 -/
def spec_DrawStepsToOpen.f (k : Nat) (l0 : List Int) : Option (Int × Int × ByteArray × ByteArray) := (spec_newCur.f l0).bind fun bt941 => ((spec_l1Cur_digits.f k bt941.1 bt941.2.1 bt941.2.2).bind fun bt945 => ((spec_l1Cur_code1.f k bt941.1 bt945.2.2.2.1 bt945.2.2.2.2 bt945.1 bt945.2.1).bind fun bt951 => (some (bt945.1, bt945.2.1, bt945.2.2.1, bt951.1))))
theorem spec_DrawStepsToOpen.mono : ∀ a0 k, LeO (spec_DrawStepsToOpen.f k a0) (spec_DrawStepsToOpen.f (k + 1) a0) := by
  intro a0 k
  unfold spec_DrawStepsToOpen.f
  repeat' first
      | (with_reducible exact spec_l1Cur_code1.mono _ _ _ _ _ _)
      | (with_reducible exact spec_l1Cur_digits.mono _ _ _ _)
      | (with_reducible exact LeO.refl _)
      | (with_reducible exact LeO.none _)
      | (with_reducible refine LeO.ite ?_ ?_)
      | (with_reducible refine LeO.bind ?_ (fun _ => ?_))
      | exact spec_l1Cur_code1.mono _ _ _ _ _ _
      | exact spec_l1Cur_digits.mono _ _ _ _
      | exact LeO.none _
      | refine LeO.ite ?_ ?_
      | refine LeO.bind ?_ (fun _ => ?_)
def spec_DrawStepsToOpen.T3 : Bool × List (List Nat × List Nat) := (true, [([], []), ([], []), ([], []), ([], []), ([2, 3], [2, 3]), ([0, 4, 0], [0]), ([1, 5, 0, 1, 5], [1]), ([4, 6, 0, 1, 2, 3, 4, 5, 6], [4])])
def spec_DrawStepsToOpen.B3 : List Nat := [0, 0, 0, 0, 12, 29, 63, 127]
theorem spec_DrawStepsToOpen.tab3 : rtab .any (opsOf Tryz.f49 3) = spec_DrawStepsToOpen.T3 := by kernel_rfl
theorem spec_DrawStepsToOpen.bits3 : waitsOk spec_DrawStepsToOpen.T3.2 spec_DrawStepsToOpen.B3 = true := by kernel_rfl
set_option maxHeartbeats 8000000 in
set_option maxRecDepth 100000 in
theorem spec_DrawStepsToOpen.calls (k : Nat) (A0 : Option Addr) (c0 : Nat) (l0 : List Int) (r1 : Int) (r2 : Int) (r3 : ByteArray) (r4 : ByteArray) (w : World) (hr0 : Kd.C (Kd.int .u8) w A0 l0.length l0) (hc0 : l0.length ≤ c0) (h : spec_DrawStepsToOpen.f k l0 = some (r1, r2, r3, r4)) :
    Calls Tryz.prog 49 #[.slice A0 l0.length c0] w fun e w' => e = .returned (.tuple #[.agg #[.int .i64 r1, .int .i64 r2], .string r3, .string r4]) ∧ Below w.heap.size w w' := by
  have hu23 := Tryz.underlying23
  have HR0 := Aside0.mk hr0
  have HC0 := Aside0.mk hc0
  clear hr0 hc0
  have HB := Aside0.mk (Below.refl w.heap.size w)
  have H : ((spec_newCur.f l0).bind fun bt941 => ((spec_l1Cur_digits.f k bt941.1 bt941.2.1 bt941.2.2).bind fun bt945 => ((spec_l1Cur_code1.f k bt941.1 bt945.2.2.2.1 bt945.2.2.2.2 bt945.1 bt945.2.1).bind fun bt951 => (some (bt945.1, bt945.2.1, bt945.2.2.1, bt951.1))))) = some (r1, r2, r3, r4) := h
  clear h
  replace H := Option.bind_eq_some_iff.mp H
  obtain ⟨⟨t941, t942, t943⟩, A20, H⟩ := H
  try dsimp only at H
  have A2 := Aside0.mk A20
  clear A20
  replace H := Option.bind_eq_some_iff.mp H
  obtain ⟨⟨t945, t946, t947, t948, t949⟩, A30, H⟩ := H
  try dsimp only at H
  have A3 := Aside0.mk A30
  clear A30
  replace H := Option.bind_eq_some_iff.mp H
  obtain ⟨⟨t951, t952, t953⟩, A40, H⟩ := H
  try dsimp only at H
  have A4 := Aside0.mk A40
  clear A40
  simp only [Option.some.injEq, Prod.mk.injEq] at H
  obtain ⟨rfl, rfl, rfl, rfl⟩ := H
  have hu81 := Tryz.underlying81
  go_enter Tryz.func49, Tryz.ntmps49
  try go_wp2_with (first | ((with_reducible refine gate_dst (N := 2) rfl ?_); refine box_event ?hg (N := 2) ?hd (cs := #[.int .i64 0, .int .i64 0]) (t := 23) ?hr ?_; (case hd => rfl); (case hg => rfl); (case hr => first | (go_simp; done) | (go_simp; rfl)); intro gb940 hg w5 hbox hb; have n0_ := bsx hb HB; have n1_ := Aside0.mk (hbox); have n2_ := gwx hg HB; have n3_ := n2_; clear HB; have HB := n0_; have BK940 := n1_; have GW940 := n2_; have GE940 := n3_; clear n0_ n1_ n2_ n3_; clear hb hbox hg) | ((with_reducible refine gate_dst (N := 10) rfl ?_); refine box_event ?hg (N := 10) ?hd (cs := #[.slice A0 l0.length c0, .int .i64 0, .int .u64 0]) (t := 81) ?hr ?_; (case hd => rfl); (case hg => rfl); (case hr => first | (go_simp; done) | (go_simp; rfl)); intro g944 hg w6 hbox hb2; have hi : IsS81 w w6 g944 t941 t942 t943 := spec_newCur.is A2.out hbox (by rw [hg]; exact (below_size (bB HB))) HR0.out; have hb := below_step (bB HB) hb2; clear hbox hg; have n0_ := Aside0.mk (blk_below (g := gb940) (o := .cells #[.int .i64 0, .int .i64 0] 23 (0, 0)) (bK BK940) hb2); have n1_ := Aside0.mk (hb); have n2_ := Aside0.mk (hi); have n3_ := Aside0.mk (IsS81.ne_blk hi (blk_below (g := gb940) (o := .cells #[.int .i64 0, .int .i64 0] 23 (0, 0)) (bK BK940) hb2) (by decide)); have n4_ := Aside0.mk (Ne.symm (IsS81.ne_blk hi (blk_below (g := gb940) (o := .cells #[.int .i64 0, .int .i64 0] 23 (0, 0)) (bK BK940) hb2) (by decide))); clear BK940; clear HB; have BK940 := n0_; have HB := n1_; have HI944 := n2_; have NB944_940 := n3_; have NB940_944 := n4_; clear n0_ n1_ n2_ n3_ n4_; (try clear hb); (try clear hb2); (try clear hk); (try clear hi)) | ((with_reducible refine gate_callee (f := 90) rfl ?_); refine goesL_ (some 13) rfl rfl Tryz.func90 (by kernel_rfl) rfl #[.pointer (some ⟨g944, 0, none⟩)] rfl (by (try simp only [m_1, m_2, m_3]); first | done | rfl | (simp only [m_4, m_5]; rfl)) ?_; (with_reducible refine (spec_l1Cur_digits.calls k g944 t941 t942 t943 t945 t946 t947 t948 t949 w _ ?side1 ?side2 A3.out).mono ?_); (case side1 => exact sI HI944); (case side2 => exact sB HB); rintro e w7 ⟨rfl, hi, hb, hk⟩; refine ⟨_, rfl, ?_⟩; have n0_ := Aside0.mk (KeepBut.blk hk (bK BK940) NB940_944.out (by simp)); have n1_ := Aside0.mk (hb); have n2_ := Aside0.mk (hi); clear BK940; clear HB; clear HI944; have BK940 := n0_; have HB := n1_; have HI944 := n2_; clear n0_ n1_ n2_; (try clear hb); (try clear hb2); (try clear hk); (try clear hi)) | ((with_reducible refine gate_dst (N := 6) rfl ?_); refine box_event ?hg (N := 6) ?hd (cs := #[.int .i64 0, .int .i64 0]) (t := 23) ?hr ?_; (case hd => rfl); (case hg => rfl); (case hr => first | (go_simp; done) | (go_simp; rfl)); intro gb950 hg w8 hbox hb; have n0_ := bbx hb BK940; have n1_ := Aside0.mk (IsS81.below (sI HI944) hb); have n2_ := Aside0.mk (below_step (sB HB) hb); have n3_ := Aside0.mk (hbox); have n4_ := Aside0.mk ((by rw [hg]; exact (below_size (sB HB)) : w.heap.size ≤ gb950)); have n5_ := Aside0.mk ((by rw [hg]; exact (below_size (sB HB)) : w.heap.size ≤ gb950)); have n6_ := nlx hg BK940; have n7_ := ngx hg BK940; have n8_ := Aside0.mk ((by rw [hg]; exact Nat.ne_of_lt (IsS81.lt (show IsS81 w _ g944 t941 t948 t949 from sI HI944)) : g944 ≠ gb950)); have n9_ := Aside0.mk ((by rw [hg]; exact Nat.ne_of_gt (IsS81.lt (show IsS81 w _ g944 t941 t948 t949 from sI HI944)) : gb950 ≠ g944)); clear BK940; clear HI944; clear HB; have BK940 := n0_; have HI944 := n1_; have HB := n2_; have BK950 := n3_; have GW950 := n4_; have GE950 := n5_; have NB940_950 := n6_; have NB950_940 := n7_; have NB944_950 := n8_; have NB950_944 := n9_; clear n0_ n1_ n2_ n3_ n4_ n5_ n6_ n7_ n8_ n9_; clear hb hbox hg; have hnb9 := NB950_940.out; have hnc9 := NB940_950.out; have hnb10 := NB950_944.out; have hnc10 := NB944_950.out; have hcz11_0 : w8.cell? ⟨gb950, 0, none⟩ = some (.int .i64 0) := (blk_cell BK950.out 0).trans rfl; have hcz11_1 : w8.cell? ⟨gb950, 1, none⟩ = some (.int .i64 0) := (blk_cell BK950.out 1).trans rfl; have hfz11_0 := blk_frozen BK950.out 0; have hfz11_1 := blk_frozen BK950.out 1))
  have n0_ : Aside0 (((w8.setCell ⟨gb950, 0, none⟩ (.int .i64 t945)).setCell ⟨gb950, 1, none⟩ (.int .i64 t946)).heap[gb940]? = some (.cells #[.int .i64 0, .int .i64 0] 23 (0, 0))) := ⟨bF⟩
  have n1_ : Aside0 (((w8.setCell ⟨gb950, 0, none⟩ (.int .i64 t945)).setCell ⟨gb950, 1, none⟩ (.int .i64 t946)).heap[gb950]? = some (.cells #[.int .i64 t945, .int .i64 t946] 23 (0, 0))) := ⟨by (with_reducible repeat (first | refine g_d ?_ _ | refine g_e ?_ | refine g_a ?_ _)); refine blk_put (cs := #[.int .i64 t945, .int .i64 0]) ?_ 1 _ rfl; (with_reducible repeat (first | refine g_d ?_ _ | refine g_e ?_ | refine g_a ?_ _)); refine blk_put (cs := #[.int .i64 0, .int .i64 0]) ?_ 0 _ rfl; (with_reducible repeat (first | refine g_d ?_ _ | refine g_e ?_ | refine g_a ?_ _)); exact BK950.out⟩
  have n2_ : Aside0 (IsS81 w ((w8.setCell ⟨gb950, 0, none⟩ (.int .i64 t945)).setCell ⟨gb950, 1, none⟩ (.int .i64 t946)) g944 t941 t948 t949) := ⟨sI HI944⟩
  have n3_ : Aside0 (Below w.heap.size w ((w8.setCell ⟨gb950, 0, none⟩ (.int .i64 t945)).setCell ⟨gb950, 1, none⟩ (.int .i64 t946))) := ⟨sB HB⟩
  (try clear BK940)
  (try clear BK950)
  (try clear HI944)
  (try clear HB)
  generalize ((w8.setCell ⟨gb950, 0, none⟩ (.int .i64 t945)).setCell ⟨gb950, 1, none⟩ (.int .i64 t946)) = w12 at n0_ n1_ n2_ n3_ ⊢
  have BK940 := n0_
  have BK950 := n1_
  have HI944 := n2_
  have HB := n3_
  clear n0_ n1_ n2_ n3_
  have n0_ := Aside0.mk (g_e BK940.out)
  have n1_ := Aside0.mk (g_e BK950.out)
  have n2_ := Aside0.mk (IsS81.drew HI944.out)
  have n3_ := Aside0.mk (b_e HB.out)
  clear BK940
  clear BK950
  clear HI944
  clear HB
  have BK940 := n0_
  have BK950 := n1_
  have HI944 := n2_
  have HB := n3_
  clear n0_ n1_ n2_ n3_
  refine start_ (n := 8) (S := fun w' => w'.cell? ⟨gb950, 0, none⟩ = some (.int .i64 t945) ∧ w'.cell? ⟨gb950, 1, none⟩ = some (.int .i64 t946)) (ds := []) (bs_ 8 0) (by kernel_rfl) rfl rfl ⟨(blk_cell BK950.out 0).trans rfl, (blk_cell BK950.out 1).trans rfl⟩ (fun hHeld => ?_); refine with_tabW spec_DrawStepsToOpen.tab3 spec_DrawStepsToOpen.bits3 (fun HT_ HW_ => ?_)
  generalize w12.drew = w13 at BK940 BK950 HI944 HB hHeld ⊢
  refine pua 1 17 (bs_ 8 2) HT_ ?_
  refine pua 2 18 (bs_ 8 6) HT_ ?_
  refine tk_ 0 16 (bs_ 8 7) rfl rfl HT_ HW_ (by kernel_rfl) (fun _ _ _ h => h) (by rfl) hHeld (by rintro w' ⟨s0, s1⟩; go_simp; with_reducible rfl) (by simp only [Act.put, s_1, s_2, s_3, i64_w, i32_w]; rfl) ?_
  refine tk_ 3 19 (bs_ 8 15) rfl rfl HT_ HW_ (by kernel_rfl) (fun _ _ _ h => h) (by rfl) hHeld (by rintro w' ⟨s0, s1⟩; go_simp; with_reducible rfl) (by simp only [Act.put, s_1, s_2, s_3, i64_w, i32_w]; rfl) ?_
  refine one_ (i := 4) (N := some 20) (bs_ 8 31) rfl rfl (one_of HT_.out (by kernel_rfl)) (by decide) (fun K hK => ?_)
  refine goes_ Tryz.func88 (by kernel_rfl) rfl #[.pointer (some ⟨g944, 0, none⟩), .agg #[.int .i64 t945, .int .i64 t946]] (by rfl) rfl rfl (by (try simp only [m_1, m_2, m_3]); first | done | rfl | (simp only [m_4, m_5]; rfl)) ?_
  with_reducible refine (spec_l1Cur_code1.calls k g944 t941 t948 t949 t945 t946 t951 t952 t953 w _ ?side1 ?side2 A4.out).mono ?_
  (case side1 => exact sI HI944)
  (case side2 => exact sB HB)
  rintro e w14 ⟨rfl, hi, hb, hk⟩
  refine ⟨_, rfl, ?_⟩
  have n0_ := Aside0.mk (KeepBut.blk hk (bK BK940) NB940_944.out (by simp))
  have n1_ := Aside0.mk (KeepBut.blk hk (bK BK950) NB950_944.out (by simp))
  have n2_ := Aside0.mk (hb)
  have n3_ := Aside0.mk (hi)
  clear BK940
  clear BK950
  clear HB
  clear HI944
  have BK940 := n0_
  have BK950 := n1_
  have HB := n2_
  have HI944 := n3_
  clear n0_ n1_ n2_ n3_
  (try clear hb)
  (try clear hb2)
  (try clear hk)
  (try clear hi)
  refine hK.out _ _ ⟨(blk_cell BK950.out 0).trans rfl, (blk_cell BK950.out 1).trans rfl⟩ (fun hHeld => ?_)
  clear hK K
  refine norm_ (a' := ?_) ?_ ?_
  rotate_left
  · show Act.put _ (some 20) _ = _
    simp only [Act.put, s_1, s_2, s_3, i64_w, i32_w]
    rfl
  refine one_ (i := 5) (N := none) (bs_ 8 63) rfl rfl (one_of HT_.out (by kernel_rfl)) (by decide) (fun K hK => ?_)
  have hs15 : w14.cell? ⟨gb940, 0, none⟩ = some (.int .i64 0) := (blk_cell BK940.out 0).trans rfl
  have hfs15 := blk_frozen BK940.out 0
  have hns15_1 := NB950_940.out
  have hms15_1 := NB940_950.out
  have hs16 : w14.cell? ⟨gb940, 1, none⟩ = some (.int .i64 0) := (blk_cell BK940.out 1).trans rfl
  have hfs16 := blk_frozen BK940.out 1
  have hns16_1 := NB950_940.out
  have hms16_1 := NB940_950.out
  refine skip_ (w1 := ?_) (by rfl) rfl ?_ ?_
  rotate_left
  · go_simp
    rfl
  refine hK.out _ _ ⟨((cell_far (p := ⟨gb940, _, none⟩) NB950_940.out _).trans (((cell_far (p := ⟨gb940, _, none⟩) NB950_940.out _).trans (hHeld.1)))), ((cell_far (p := ⟨gb940, _, none⟩) NB950_940.out _).trans (((cell_far (p := ⟨gb940, _, none⟩) NB950_940.out _).trans (hHeld.2))))⟩ (fun hHeld => ?_)
  clear hK K
  refine pua 6 3 (bs_ 8 127) HT_ ?_
  refine pua 7 4 (bs_ 8 255) HT_ ?_
  refine done_ (done_of HT_.out (by kernel_rfl)) ?_
  try go_wp2
  refine bodyPost_ret (results_ctt rfl _ _ gb940 23 #[.int .i64 t945, .int .i64 t946] (0, 0) _ rfl (by (with_reducible repeat (first | refine g_d ?_ _ | refine g_e ?_ | refine g_a ?_ _)); refine blk_put (cs := #[.int .i64 t945, .int .i64 0]) ?_ 1 _ rfl; (with_reducible repeat (first | refine g_d ?_ _ | refine g_e ?_ | refine g_a ?_ _)); refine blk_put (cs := #[.int .i64 0, .int .i64 0]) ?_ 0 _ rfl; (with_reducible repeat (first | refine g_d ?_ _ | refine g_e ?_ | refine g_a ?_ _)); exact BK940.out) Tryz.underlying23 rfl (by kernel_rfl)) rfl ?_
  exact ⟨by first | rfl | (simp [errW_none, errW_some] <;> rfl) | (simp [*, errW_none, errW_some] <;> rfl), sB HB⟩

end Go.Proofs.YtmpcefcgboljkaaGreat.P
